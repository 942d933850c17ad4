/- Words, contracts and plain laws for the claim's last text: RdM, Decode, PLendEntriesx0, Lend, Ents, Same, PEncodex0, RefLe, PDecodex0, PDecodex1, Ptextx0. -/
import Derived.Test.YtibcadfpengacaaMn2
import Derived.Test.YtibcadfpengacaaMn3
import Derived.Test.YtibcadfpengacaaProg
import Derived.Below
import Derived.Deep.Draws
import Derived.Deep.AppendLies
import Derived.Maps.AppendAt
import Derived.OwnWalk
import Derived.Laws.BytesArg
import Derived.Laws.MakeOwn
import Derived.Laws.OwnMore
import Derived.Deep.OwnRows
import Derived.Tactics
import Derived.Lib.ConvBytes
import Derived.Laws.Slices
import Derived.WalkKit
import Derived.KernelRfl
import Derived.RowKit3
import Derived.Deep.LoopGhost
import Derived.Deep.QuietTactic
import Derived.BigQuiet
import Derived.WideLaws
import Derived.Deep.DeepCutAuto
import Derived.Deep.CutBlock
import Derived.Deep.RegionHeld3
import Derived.Laws.Rows
import Derived.Lib.AppendStr
import Derived.ArgAppend
import Derived.Laws.IdiomCopy
import Derived.OrdersHeld
import Derived.Laws.BitsLemmas
import Derived.RowKit
import Derived.Test.YtibcadfpengacaaMn0
import Derived.Test.YtibcadfpengacaaMn1
-- RdM
set_option linter.unusedVariables false
set_option linter.unusedSimpArgs false
namespace Go.Proofs.Ytibcadfpengacaa
open Go.RowKit Go.Lib Go.Proofs.YtibcadfpengacaaW.PrintWords Go.Proofs.YtibcadfpengacaaW.PrintMore Go.Proofs.YtibcadfpengacaaW.PrintLast

theorem Msg.setKind_list (m : Msg) (v) : (m.setKind v).list = m.list := rfl
theorem Msg.setClient_list (m : Msg) (v) : (m.setClient v).list = m.list := rfl
theorem Msg.setXid_list (m : Msg) (v) : (m.setXid v).list = m.list := rfl
theorem Msg.setOp_list (m : Msg) (v) : (m.setOp v).list = m.list := rfl
theorem Msg.setH_list (m : Msg) (v) : (m.setH v).list = m.list := rfl
theorem Msg.setH2_list (m : Msg) (v) : (m.setH2 v).list = m.list := rfl
theorem Msg.setName_list (m : Msg) (v) : (m.setName v).list = m.list := rfl
theorem Msg.setName2_list (m : Msg) (v) : (m.setName2 v).list = m.list := rfl
theorem Msg.setOff_list (m : Msg) (v) : (m.setOff v).list = m.list := rfl
theorem Msg.setNum_list (m : Msg) (v) : (m.setNum v).list = m.list := rfl
theorem Msg.setData_list (m : Msg) (v) : (m.setData v).list = m.list := rfl
theorem Msg.setStatus_list (m : Msg) (v) : (m.setStatus v).list = m.list := rfl
theorem Msg.setAh_list (m : Msg) (v) : (m.setAh v).list = m.list := rfl
theorem Msg.setAkind_list (m : Msg) (v) : (m.setAkind v).list = m.list := rfl
theorem Msg.setLinks_list (m : Msg) (v) : (m.setLinks v).list = m.list := rfl
theorem Msg.setSize_list (m : Msg) (v) : (m.setSize v).list = m.list := rfl
theorem Msg.setChange_list (m : Msg) (v) : (m.setChange v).list = m.list := rfl
theorem Msg.setAdata_list (m : Msg) (v) : (m.setAdata v).list = m.list := rfl
theorem Msg.setEof_list (m : Msg) (v) : (m.setEof v).list = m.list := rfl
theorem Msg.setAnum_list (m : Msg) (v) : (m.setAnum v).list = m.list := rfl
theorem Msg.setBoot_list (m : Msg) (v) : (m.setBoot v).list = m.list := rfl
theorem Msg.setGb_list (m : Msg) (v) : (m.setGb v).list = m.list := rfl
theorem Msg.setGn_list (m : Msg) (v) : (m.setGn v).list = m.list := rfl
theorem askM_list (ρ : Rd) (m : Msg) : (askM ρ m).list = m.list := by simp only [askM, Msg.setKind_list, Msg.setClient_list, Msg.setXid_list, Msg.setOp_list, Msg.setH_list, Msg.setH2_list, Msg.setName_list, Msg.setName2_list, Msg.setOff_list, Msg.setNum_list, Msg.setData_list, Msg.setStatus_list, Msg.setAh_list, Msg.setAkind_list, Msg.setLinks_list, Msg.setSize_list, Msg.setChange_list, Msg.setAdata_list, Msg.setEof_list, Msg.setAnum_list, Msg.setBoot_list, Msg.setGb_list, Msg.setGn_list]
theorem stampM_list (ρ : Rd) (m : Msg) : (stampM ρ m).list = m.list := by simp only [stampM, Msg.setKind_list, Msg.setClient_list, Msg.setXid_list, Msg.setOp_list, Msg.setH_list, Msg.setH2_list, Msg.setName_list, Msg.setName2_list, Msg.setOff_list, Msg.setNum_list, Msg.setData_list, Msg.setStatus_list, Msg.setAh_list, Msg.setAkind_list, Msg.setLinks_list, Msg.setSize_list, Msg.setChange_list, Msg.setAdata_list, Msg.setEof_list, Msg.setAnum_list, Msg.setBoot_list, Msg.setGb_list, Msg.setGn_list]
theorem zero_list : Msg.zero.list = [] := rfl
theorem callM_list (ρ : Rd) : (callM ρ).list = [] := by simp only [callM, askM_list, zero_list, Msg.setKind_list, Msg.setClient_list, Msg.setXid_list, Msg.setOp_list, Msg.setH_list, Msg.setH2_list, Msg.setName_list, Msg.setName2_list, Msg.setOff_list, Msg.setNum_list, Msg.setData_list, Msg.setStatus_list, Msg.setAh_list, Msg.setAkind_list, Msg.setLinks_list, Msg.setSize_list, Msg.setChange_list, Msg.setAdata_list, Msg.setEof_list, Msg.setAnum_list, Msg.setBoot_list, Msg.setGb_list, Msg.setGn_list]
theorem backM_list (ρ : Rd) : (backM ρ).list = [] := by simp only [backM, stampM_list, zero_list, Msg.setKind_list, Msg.setClient_list, Msg.setXid_list, Msg.setOp_list, Msg.setH_list, Msg.setH2_list, Msg.setName_list, Msg.setName2_list, Msg.setOff_list, Msg.setNum_list, Msg.setData_list, Msg.setStatus_list, Msg.setAh_list, Msg.setAkind_list, Msg.setLinks_list, Msg.setSize_list, Msg.setChange_list, Msg.setAdata_list, Msg.setEof_list, Msg.setAnum_list, Msg.setBoot_list, Msg.setGb_list, Msg.setGn_list]
theorem headM_list (ρ : Rd) : (headM ρ).list = [] := by simp only [headM, zero_list, Msg.setKind_list, Msg.setClient_list, Msg.setXid_list, Msg.setOp_list, Msg.setH_list, Msg.setH2_list, Msg.setName_list, Msg.setName2_list, Msg.setOff_list, Msg.setNum_list, Msg.setData_list, Msg.setStatus_list, Msg.setAh_list, Msg.setAkind_list, Msg.setLinks_list, Msg.setSize_list, Msg.setChange_list, Msg.setAdata_list, Msg.setEof_list, Msg.setAnum_list, Msg.setBoot_list, Msg.setGb_list, Msg.setGn_list]
theorem repM_list (ρ : Rd) : (repM ρ).list = [] := by simp only [repM, zero_list, Msg.setKind_list, Msg.setClient_list, Msg.setXid_list, Msg.setOp_list, Msg.setH_list, Msg.setH2_list, Msg.setName_list, Msg.setName2_list, Msg.setOff_list, Msg.setNum_list, Msg.setData_list, Msg.setStatus_list, Msg.setAh_list, Msg.setAkind_list, Msg.setLinks_list, Msg.setSize_list, Msg.setChange_list, Msg.setAdata_list, Msg.setEof_list, Msg.setAnum_list, Msg.setBoot_list, Msg.setGb_list, Msg.setGn_list]
theorem Rd.ents_zero (ρ : Rd) : ρ.ents 0 = ([], ρ) := rfl
theorem setList_list (m : Msg) (es : List Ent) : (m.setList es).list = es := rfl
theorem setList_nil (m : Msg) (h : m.list = []) : m.setList [] = m := by
  cases m
  simp only at h
  subst h
  rfl

/-- A list's slice: none, or a block of the call's own that holds the entries. -/
def OwnEnts (w0 w' : World) (A : Option Addr) (cap : Nat) (es : List Ent) : Prop :=
  (es = [] ∧ A = none ∧ cap = 0) ∨ ∃ L, w0.heap.size ≤ L ∧ A = some ⟨L, 0, none⟩ ∧ cap = es.length ∧ es ≠ [] ∧ Blk w' L 99 (es.flatMap Ent.vs)

def rdL (ρ : Rd) : List Ent × Rd := ((repR ρ).left 4).ents ((repR ρ).num 4)
def rdM (ρ : Rd) : Msg :=
  if ρ.num 1 = 1 then callM ρ else if ρ.num 1 = 2 then (if (repR ρ).num 4 ≤ 64 then stampM (rdL ρ).2 ((repM ρ).setList (rdL ρ).1) else repM ρ) else if ρ.num 1 = 3 ∨ ρ.num 1 = 4 then backM ρ else headM ρ
def rdR (ρ : Rd) : Rd :=
  if ρ.num 1 = 1 then callR ρ else if ρ.num 1 = 2 then (if (repR ρ).num 4 ≤ 64 then stampR (rdL ρ).2 else (repR ρ).left 4) else if ρ.num 1 = 3 ∨ ρ.num 1 = 4 then backR ρ else headR ρ
def rdFine (ρ : Rd) : Bool := if ρ.num 1 = 2 then decide (((flR ρ).num 1 : Int) < 2) else decide (ρ.num 1 = 1 ∨ ρ.num 1 = 3 ∨ ρ.num 1 = 4)
def rdShort (ρ : Rd) : Bool := decide (ρ.num 1 = 2 → (repR ρ).num 4 ≤ 64)

/-- What fields leaves when a reader is read. -/
def FieldsPost (w : World) (R M : Nat) (m : Msg) (ρ : Rd) (w' : World) : Prop :=
  ∃ A cap, RdS w' R ρ ∧ Blk w' M 36 (m.vs (.slice A m.list.length cap)) ∧ OwnEnts w w' A cap m.list ∧ Keeps (fun k => k = R ∨ k = M) w w'

theorem FieldsPost.of {w : World} {R M : Nat} {m : Msg} {ρ : Rd} {w' : World} (h : RPost w R M 36 (m.vs (.slice none 0 0)) ρ w') (hm : m.list = []) : FieldsPost w R M m ρ w' :=
  ⟨none, 0, h.rd, by rw [hm]; exact h.m, .inl ⟨hm, rfl, rfl⟩, h.keep⟩

set_option maxHeartbeats 2000000 in
theorem fields_r (R M : Nat) (ρ : Rd) (wI : World) (hF : FR wI wI R M Msg.zero (.slice none 0 0) ρ) :
    Calls Try.prog 32 #[.iface 90 (.pointer (some ⟨R, 0, none⟩)), .pointer (some ⟨M, 0, none⟩)] wI fun r w' => r = .returned (.tuple #[.bool (rdFine ρ), .bool (rdShort ρ)]) ∧ FieldsPost wI R M (rdM ρ) (rdR ρ) w' := by
  unfold rdFine rdShort rdM rdR
  by_cases h1 : ρ.num 1 = 1
  · have h2 : ¬ ρ.num 1 = 2 := by omega
    rw [if_neg h2, if_pos h1, if_pos h1, decide_eq_true (.inl h1), decide_eq_true (p := ρ.num 1 = 2 → (repR ρ).num 4 ≤ 64) (fun h => absurd h h2)]
    exact (fields_r_call R M ρ wI hF h1).mono (fun e w' ⟨a, b⟩ => ⟨a, .of b (callM_list ρ)⟩)
  by_cases h2 : ρ.num 1 = 2
  · rw [if_pos h2, if_neg h1, if_neg h1, if_pos h2, if_pos h2]
    by_cases h64 : (repR ρ).num 4 ≤ 64
    · rw [if_pos h64, if_pos h64, decide_eq_true (p := ρ.num 1 = 2 → (repR ρ).num 4 ≤ 64) (fun _ => h64)]
      by_cases h0 : (repR ρ).num 4 = 0
      · have e1 : rdL ρ = ([], (repR ρ).left 4) := by unfold rdL; rw [h0, Rd.ents_zero]
        rw [e1]
        dsimp only
        rw [setList_nil _ (repM_list ρ)]
        exact (fields_r_none R M ρ wI hF h2 h0).mono (fun e w' ⟨a, b⟩ => ⟨a, .of b (by rw [stampM_list, repM_list])⟩)
      · refine (fields_r_some R M ρ wI hF h2 ⟨by omega, h64⟩).mono ?_
        rintro e w' ⟨a, Lb, b1, b2, b3, b4, b5⟩
        have hrd : rdL ρ = ((repR ρ).left 4).ents ((repR ρ).num 4) := rfl
        have hle : (rdL ρ).1.length = (repR ρ).num 4 := by rw [hrd, Rd.ents_length]
        rw [← hrd] at b2 b3 b4
        generalize rdL ρ = p at *
        generalize repM ρ = m at *
        have hl : ((stampM p.2 (m.setList p.1)).list) = p.1 := by rw [stampM_list, setList_list]
        refine ⟨a, some ⟨Lb, 0, none⟩, p.1.length, b2, by rw [hl]; exact b3, .inr ⟨Lb, b1, rfl, by rw [hl], ?_, by rw [hl]; exact b4⟩, b5⟩
        rw [hl]
        intro e0
        rw [e0] at hle
        exact h0 hle.symm
    · rw [if_neg h64, if_neg h64, decide_eq_false (p := ρ.num 1 = 2 → (repR ρ).num 4 ≤ 64) (fun h => h64 (h h2))]
      exact (fields_r_long R M ρ wI hF h2 h64).mono (fun e w' ⟨a, b⟩ => ⟨a, .of b (repM_list ρ)⟩)
  rw [if_neg h2, if_neg h1, if_neg h1, if_neg h2, if_neg h2, decide_eq_true (p := ρ.num 1 = 2 → (repR ρ).num 4 ≤ 64) (fun h => absurd h h2)]
  by_cases h3 : ρ.num 1 = 3
  · rw [if_pos (.inl h3), if_pos (.inl h3), decide_eq_true (.inr (.inl h3))]
    exact (fields_r_recall R M ρ wI hF h3).mono (fun e w' ⟨a, b⟩ => ⟨a, .of b (backM_list ρ)⟩)
  by_cases h4 : ρ.num 1 = 4
  · rw [if_pos (.inr h4), if_pos (.inr h4), decide_eq_true (.inr (.inr h4))]
    exact (fields_r_return R M ρ wI hF h4).mono (fun e w' ⟨a, b⟩ => ⟨a, .of b (backM_list ρ)⟩)
  · rw [if_neg (by omega), if_neg (by omega), decide_eq_false (by omega)]
    exact (fields_r_other R M ρ wI hF ⟨h1, h2, h3, h4⟩).mono (fun e w' ⟨a, b⟩ => ⟨a, .of b (headM_list ρ)⟩)

end Go.Proofs.Ytibcadfpengacaa

-- Decode
set_option linter.unusedVariables false
set_option linter.unusedSimpArgs false
namespace Go.Proofs.Ytibcadfpengacaa
open Go.RowKit Go.Lib Go.Proofs.YtibcadfpengacaaW.PrintWords Go.Proofs.YtibcadfpengacaaW.PrintMore Go.Proofs.YtibcadfpengacaaW.PrintLast

/-- The cells of a zero message. -/
def zcs : List Value := Msg.zero.vs (.slice none 0 0)
theorem zcs_len : zcs.length = 33 := rfl
theorem zcs_one : ∀ v ∈ zcs, v.oneCell' = true := Msg.one Msg.zero none 0 0
theorem run_allocM (ev : Operand → Value) (o : Oper) (ho : o.op = .alloc 36) (w : World) : (execOp ev o).run Try.prog w = .ok (.value (.pointer (some ⟨w.heap.size, 0, none⟩))) (w.alloc (.cells zcs.toArray 36 (0, 0))) := by
  unfold execOp
  rw [ho]
  kernel_rfl
theorem run_buildM (ev : Operand → Value) (o : Oper) (ho : o.op = .build 36 #[]) (w : World) : (execOp ev o).run Try.prog w = .ok (.value (.agg zcs.toArray)) w := by
  unfold execOp
  rw [ho]
  kernel_rfl
theorem load_msg {w : World} {b : Nat} {cs : List Value} (h : Blk w b 36 cs) (hl : cs.length = 33) : (loadVar 36 ⟨b, 0, none⟩).run Try.prog w = .ok (.agg cs.toArray) w :=
  run_loadVar_mid w b 0 36 cs _ h.range Try.underlying36 rfl (by rw [hl]; exact infoMsg)

theorem results_cell_tmp {P : Program} {fn : Func} {c k : Tmp} {t : TypeId} (hr : fn.results = #[.cell c t, .tmp k]) {tmps : Array Value} {ad : Addr} {v y : Value} {w : World}
    (hc : tmps.getD c undef = .pointer (some ad)) (hk : tmps.getD k undef = y) (hl : (loadVar t ad).run P w = .ok v w) : (results fn tmps).run P w = .ok (.tuple #[v, y]) w := by
  have hc' : tmps[c]?.getD undef = .pointer (some ad) := by simpa using hc
  have hk' : tmps[k]?.getD undef = y := by simpa using hk
  unfold results
  rw [hr]
  simp only [Sem.run_bind]
  simp [Array.mapM_eq_foldlM, Sem.run_bind, hc', hk', hl, asAddr]
theorem results_cell {P : Program} {fn : Func} {c : Tmp} {t : TypeId} (hr : fn.results = #[.cell c t]) {tmps : Array Value} {ad : Addr} {v : Value} {w : World}
    (hc : tmps.getD c undef = .pointer (some ad)) (hl : (loadVar t ad).run P w = .ok v w) : (results fn tmps).run P w = .ok v w := by
  have hc' : tmps[c]?.getD undef = .pointer (some ad) := by simpa using hc
  unfold results
  rw [hr]
  simp only [Sem.run_bind]
  simp [Array.mapM_eq_foldlM, Sem.run_bind, hc', hl, asAddr]
theorem r_nil {r : ByteArray} (h : r.toList = []) : r = ⟨#[]⟩ := by
  rw [ByteArray.toList_eq] at h
  cases r with
  | mk d => cases d with
    | mk l => simp at h; subst h; rfl
theorem r_empty {r : ByteArray} (h : r.size = 0) : r.toList.isEmpty = true := by
  rw [ByteArray.toList_eq]
  have h2 : r = ⟨#[]⟩ := by cases r with
    | mk d => cases d with
      | mk l => simp [ByteArray.size] at h; subst h; rfl
  rw [h2]; rfl

/-- Is the text a message (but for what R4 asks of the caller)? -/
def decOk (s : ByteArray) : Bool := decide ((rdR ⟨0, s⟩).c = 0 ∧ (rdR ⟨0, s⟩).s.size = 0 ∧ rdFine ⟨0, s⟩ = true ∧ rdShort ⟨0, s⟩ = true)
def decM (s : ByteArray) : Msg := if decOk s = true then rdM ⟨0, s⟩ else Msg.zero
def decC (s : ByteArray) : Int := if decOk s = true then 0 else 2200

def DecPost (s : ByteArray) (w : World) (e : Ending) (w' : World) : Prop :=
  ∃ A cap, e = .returned (.tuple #[.agg ((decM s).vs (.slice A (decM s).list.length cap)).toArray, .int .i64 (decC s)]) ∧ OwnEnts w w' A cap (decM s).list ∧ Below w.heap.size w w'

set_option maxHeartbeats 4000000 in
set_option maxRecDepth 100000 in
theorem decode_any (s : ByteArray) (hs : s.size ≤ 281474976710656) (w : World) : Calls Try.prog 14 #[.string s] w (DecPost s w) := by
  have Hsz := Lib.hid infoMsg
  have Hs := Lib.hid hs
  clear hs
  go_enter Try.func14, Try.ntmps14
  go_wp2_with (first
    | ((with_reducible refine gate_dst (N := 2) rfl ?_); refine box_event rfl (N := 2) rfl (run_allocM _ _ rfl _) ?_; intro gr hgr v1 hbox hbel; have BR0 := Lib.hid (show Blk v1 gr 36 zcs from hbox); have BL0 := Lib.hid hbel; have HGR := Lib.hid hgr; clear hbox hbel hgr)
    | ((with_reducible refine gate_dst (N := 11) rfl ?_); refine Kd.event_run rfl (run_buildM _ _ rfl _) ?_)
    | ((with_reducible refine gate_dst (N := 5) rfl ?_); refine box_event rfl (N := 5) rfl (run_allocM _ _ rfl _) ?_; intro gc hgc v2 hbox hbel; have BC0 := Lib.hid (show Blk v2 gc 36 zcs from hbox); have BL1 := Lib.hid hbel; have HGC := Lib.hid hgc; clear hbox hbel hgc)
    | ((with_reducible refine gate_store (t := 36) (p := 5) rfl ?_); refine wpList_store_mid rfl 36 _ _ rfl gc 0 zcs.toArray rfl rfl ?ht ?hi ?h1 ?_; (case ht => exact BC0.out.there 33 (Nat.le_refl 33)); (case hi => exact Hsz.out); (case h1 => exact all_oneCell_toArray zcs_one); have BC1 := Lib.hid (BC0.out.setAll zcs rfl); have KC := Lib.hid (Keeps.setCells (S := fun k => k = gc) zcs 0 v2 (Keeps.refl _ _) (fun _ => rfl)); change wpList _ _ _ _ _ (v2.setCells gc 0 zcs); generalize v2.setCells gc 0 zcs = v3 at BC1 KC ⊢; clear BC0))
  have b0 := BR0.out.alloc (.cells #[.int .i64 0, .string s] 92)
  have bw0 := Blk.new v1 92 [.int .i64 0, .string s]
  have hgr : gr = w.heap.size := HGR.out
  have hgc : gc = v1.heap.size + 1 := by rw [HGC.out]; simp
  have hgl := BR0.out.lt
  have k1 : Keeps (fun k => k = gc) w v3 := (((Keeps.of_below_all (S := fun k => k = gc) BL0.out).alloc (.cells #[.int .i64 0, .string s] 92)).trans (Keeps.of_below_all (S := fun k => k = gc) BL1.out) (fun _ _ h => h)).trans KC.out (fun _ _ h => h)
  have b1 := (b0.below BL1.out).kept KC.out (by show ¬ gr = gc; omega)
  have b2 := (bw0.below BL1.out).kept KC.out (by show ¬ v1.heap.size = gc; omega)
  have f1 : FR v3 v3 v1.heap.size gc Msg.zero (.slice none 0 0) ⟨0, s⟩ := ⟨b2, BC1.out, Keeps.refl _ _, by omega, Hs.out⟩
  refine (fields_r _ _ _ v3 f1).mono ?_
  rintro e w2 ⟨rfl, A, cap, q1, q2, q3, q4⟩
  have hgs := k1.size
  have hll := BC1.out.lt
  have hne : gr ≠ v1.heap.size := by omega
  have bR := b1.kept q4 (by rintro (e | e) <;> omega)
  have KB : Below w.heap.size w w2 := (k1.below (Nat.le_refl _) (fun k hk => by show ¬ k = gc; omega)).trans (q4.below hgs (fun k hk => by rintro (e | e) <;> omega))
  have hgrl : w.heap.size ≤ gr := by omega
  have hgr3 := b1.lt
  have hgs3 := hgs
  clear b0 bw0 hgr hgc hgl k1 b1 b2 f1 q4 hgs hll hne BC1 KC BR0 BL0 HGR BL1 HGC Hs
  have hown : OwnEnts w w2 A cap (rdM ⟨0, s⟩).list ∧ ∀ L, A = some ⟨L, 0, none⟩ → L ≠ gr := by
    rcases q3 with ⟨h1, h2, h3⟩ | ⟨L, h1, h2, h3⟩
    · exact ⟨.inl ⟨h1, h2, h3⟩, fun L e => by rw [h2] at e; cases e⟩
    · refine ⟨.inr ⟨L, by omega, h2, h3⟩, fun L' e => ?_⟩
      rw [h2] at e
      injection e with e
      injection e with e
      omega
  have hcl : ((rdM ⟨0, s⟩).vs (.slice A (rdM ⟨0, s⟩).list.length cap)).length = 33 := rfl
  have hco := (rdM ⟨0, s⟩).one A (rdM ⟨0, s⟩).list.length cap
  have hbad : decOk s = false → decM s = Msg.zero ∧ decC s = 2200 := fun h => by unfold decM decC; rw [h]; exact ⟨rfl, rfl⟩
  have hgood : decOk s = true → decM s = rdM ⟨0, s⟩ ∧ decC s = 0 := fun h => by unfold decM decC; rw [h]; exact ⟨rfl, rfl⟩
  have Hdef : Hid (decOk s = decide ((rdR ⟨0, s⟩).c = 0 ∧ (rdR ⟨0, s⟩).s.size = 0 ∧ rdFine ⟨0, s⟩ = true ∧ rdShort ⟨0, s⟩ = true)) := Lib.hid rfl
  have Hcl := Lib.hid hcl; have Hco := Lib.hid hco; have Hbad := Lib.hid hbad; have Hgood := Lib.hid hgood; have Hown := Lib.hid hown
  clear hcl hco hbad hgood hown q3
  have BR := Lib.hid bR; have KBh := Lib.hid KB; have Hgr := Lib.hid hgrl; have Bm := Lib.hid q2
  have hc0 : w2.cell? ⟨v1.heap.size, 0, none⟩ = some (.int .i64 (rdR ⟨0, s⟩).c) := q1.cell 0 rfl
  have hc1 : w2.cell? ⟨v1.heap.size, 1, none⟩ = some (.string (rdR ⟨0, s⟩).s) := q1.cell 1 rfl
  clear bR KB hgrl q2 q1
  generalize hcs : (rdM ⟨0, s⟩).vs (.slice A (rdM ⟨0, s⟩).list.length cap) = cs at Hcl Hco Bm
  have Hcs := Lib.hid hcs
  clear hcs
  generalize rdFine ⟨0, s⟩ = fine at Hdef ⊢
  generalize rdShort ⟨0, s⟩ = short at Hdef ⊢
  generalize (rdR ⟨0, s⟩).c = c at *
  generalize (rdR ⟨0, s⟩).s = r at *
  rcases orFalse (c == 0) with e0 | e0
  rotate_left
  · skip
    have hd : decOk s = false := by rw [Hdef.out]; exact decide_eq_false (fun h => by simp [h.1] at e0)
    have HD := Lib.hid (Hbad.out hd)
    clear hd
    have e1 : (c != 0) = true := by simpa using e0
    go_wp2_with (first
      | ((with_reducible refine gate_dst (N := 39) rfl ?_); refine Kd.event_run rfl (run_buildM _ _ rfl _) ?_)
      | ((with_reducible refine gate_store (t := 36) (p := 2) rfl ?_); refine wpList_store_mid rfl 36 _ _ rfl gr 0 zcs.toArray rfl rfl ?ht ?hi ?h1 ?_; (case ht => exact BR.out.there 33 (Nat.le_refl 33)); (case hi => exact Hsz.out); (case h1 => exact all_oneCell_toArray zcs_one); have BR1 := Lib.hid (BR.out.setAll zcs rfl); have KR := Lib.hid (Keeps.setCells (S := fun k => k = gr) zcs 0 w2 (Keeps.refl _ _) (fun _ => rfl)); change wpList _ _ _ _ _ (w2.setCells gr 0 zcs); generalize w2.setCells gr 0 zcs = w3 at BR1 KR ⊢))
    refine bodyPost_ret (v := .tuple #[.agg zcs.toArray, .int .i64 2200]) ?_ rfl ⟨none, 0, by rw [HD.out.1, HD.out.2]; rfl, .inl ⟨by rw [HD.out.1]; rfl, rfl, rfl⟩, ?_⟩
    · exact results_cell_tmp Try.results14 (by rfl) (by rfl) (load_msg BR1.out zcs_len)
    · exact KBh.out.trans (KR.out.below (B := w.heap.size) KBh.out.size (fun k hk => by show ¬ k = gr; have := Hgr.out; omega))
  have e1 : (c != 0) = false := by simpa using e0
  rcases orFalse (r.toList.isEmpty) with e2 | e2
  rotate_left
  · skip
    have hd : decOk s = false := by rw [Hdef.out]; exact decide_eq_false (fun h => by rw [r_empty h.2.1] at e2; cases e2)
    have HD := Lib.hid (Hbad.out hd)
    clear hd
    have e3 : (!r.toList.isEmpty) = true := by simp [e2]
    go_wp2_with (first
      | ((with_reducible refine gate_dst (N := 39) rfl ?_); refine Kd.event_run rfl (run_buildM _ _ rfl _) ?_)
      | ((with_reducible refine gate_store (t := 36) (p := 2) rfl ?_); refine wpList_store_mid rfl 36 _ _ rfl gr 0 zcs.toArray rfl rfl ?ht ?hi ?h1 ?_; (case ht => exact BR.out.there 33 (Nat.le_refl 33)); (case hi => exact Hsz.out); (case h1 => exact all_oneCell_toArray zcs_one); have BR1 := Lib.hid (BR.out.setAll zcs rfl); have KR := Lib.hid (Keeps.setCells (S := fun k => k = gr) zcs 0 w2 (Keeps.refl _ _) (fun _ => rfl)); change wpList _ _ _ _ _ (w2.setCells gr 0 zcs); generalize w2.setCells gr 0 zcs = w3 at BR1 KR ⊢))
    refine bodyPost_ret (v := .tuple #[.agg zcs.toArray, .int .i64 2200]) ?_ rfl ⟨none, 0, by rw [HD.out.1, HD.out.2]; rfl, .inl ⟨by rw [HD.out.1]; rfl, rfl, rfl⟩, ?_⟩
    · exact results_cell_tmp Try.results14 (by rfl) (by rfl) (load_msg BR1.out zcs_len)
    · exact KBh.out.trans (KR.out.below (B := w.heap.size) KBh.out.size (fun k hk => by show ¬ k = gr; have := Hgr.out; omega))
  have e3 : (!r.toList.isEmpty) = false := by simp [e2]
  have e4 : r.toList = [] := by simpa using e2
  have hr0 : r = ⟨#[]⟩ := r_nil e4
  rcases orFalse fine with ch | ch
  rotate_left
  · skip
    subst ch
    have hd : decOk s = false := by rw [Hdef.out]; exact decide_eq_false (fun h => by simp at h)
    have HD := Lib.hid (Hbad.out hd)
    clear hd
    go_wp2_with (first
      | ((with_reducible refine gate_dst (N := 39) rfl ?_); refine Kd.event_run rfl (run_buildM _ _ rfl _) ?_)
      | ((with_reducible refine gate_store (t := 36) (p := 2) rfl ?_); refine wpList_store_mid rfl 36 _ _ rfl gr 0 zcs.toArray rfl rfl ?ht ?hi ?h1 ?_; (case ht => exact BR.out.there 33 (Nat.le_refl 33)); (case hi => exact Hsz.out); (case h1 => exact all_oneCell_toArray zcs_one); have BR1 := Lib.hid (BR.out.setAll zcs rfl); have KR := Lib.hid (Keeps.setCells (S := fun k => k = gr) zcs 0 w2 (Keeps.refl _ _) (fun _ => rfl)); change wpList _ _ _ _ _ (w2.setCells gr 0 zcs); generalize w2.setCells gr 0 zcs = w3 at BR1 KR ⊢))
    refine bodyPost_ret (v := .tuple #[.agg zcs.toArray, .int .i64 2200]) ?_ rfl ⟨none, 0, by rw [HD.out.1, HD.out.2]; rfl, .inl ⟨by rw [HD.out.1]; rfl, rfl, rfl⟩, ?_⟩
    · exact results_cell_tmp Try.results14 (by rfl) (by rfl) (load_msg BR1.out zcs_len)
    · exact KBh.out.trans (KR.out.below (B := w.heap.size) KBh.out.size (fun k hk => by show ¬ k = gr; have := Hgr.out; omega))
  subst ch
  rcases orFalse short with ch | ch
  rotate_left
  · skip
    subst ch
    have hd : decOk s = false := by rw [Hdef.out]; exact decide_eq_false (fun h => by simp at h)
    have HD := Lib.hid (Hbad.out hd)
    clear hd
    go_wp2_with (first
      | ((with_reducible refine gate_dst (N := 39) rfl ?_); refine Kd.event_run rfl (run_buildM _ _ rfl _) ?_)
      | ((with_reducible refine gate_store (t := 36) (p := 2) rfl ?_); refine wpList_store_mid rfl 36 _ _ rfl gr 0 zcs.toArray rfl rfl ?ht ?hi ?h1 ?_; (case ht => exact BR.out.there 33 (Nat.le_refl 33)); (case hi => exact Hsz.out); (case h1 => exact all_oneCell_toArray zcs_one); have BR1 := Lib.hid (BR.out.setAll zcs rfl); have KR := Lib.hid (Keeps.setCells (S := fun k => k = gr) zcs 0 w2 (Keeps.refl _ _) (fun _ => rfl)); change wpList _ _ _ _ _ (w2.setCells gr 0 zcs); generalize w2.setCells gr 0 zcs = w3 at BR1 KR ⊢))
    refine bodyPost_ret (v := .tuple #[.agg zcs.toArray, .int .i64 2200]) ?_ rfl ⟨none, 0, by rw [HD.out.1, HD.out.2]; rfl, .inl ⟨by rw [HD.out.1]; rfl, rfl, rfl⟩, ?_⟩
    · exact results_cell_tmp Try.results14 (by rfl) (by rfl) (load_msg BR1.out zcs_len)
    · exact KBh.out.trans (KR.out.below (B := w.heap.size) KBh.out.size (fun k hk => by show ¬ k = gr; have := Hgr.out; omega))
  subst ch
  have hd : decOk s = true := by rw [Hdef.out]; exact decide_eq_true ⟨by simpa using e0, by rw [hr0]; rfl, rfl, rfl⟩
  have HD := Lib.hid (Hgood.out hd)
  clear hd
  go_wp2_with (first
    | ((with_reducible refine gate_dst (N := 40) rfl ?_); refine wpList_load_mid rfl 36 _ rfl gc 0 rfl cs _ ?hc Try.underlying36 rfl ?hi ?_; (case hc => exact Bm.out.range); (case hi => rw [Hcl.out]; exact Hsz.out))
    | ((with_reducible refine gate_store (t := 36) (p := 2) rfl ?_); refine wpList_store_mid rfl 36 _ _ rfl gr 0 cs.toArray rfl rfl ?ht ?hi ?h1 ?_; (case ht => exact BR.out.there _ (by rw [List.size_toArray, Hcl.out]; exact Nat.le_refl 33)); (case hi => rw [List.size_toArray, Hcl.out]; exact Hsz.out); (case h1 => exact all_oneCell_toArray Hco.out); have BR1 := Lib.hid (BR.out.setAll cs (by rw [Hcl.out]; rfl)); have KR := Lib.hid (Keeps.setCells (S := fun k => k = gr) cs 0 w2 (Keeps.refl _ _) (fun _ => rfl)); change wpList _ _ _ _ _ (w2.setCells gr 0 cs); generalize w2.setCells gr 0 cs = w3 at BR1 KR ⊢))
  refine bodyPost_ret (v := .tuple #[.agg cs.toArray, .int .i64 0]) ?_ rfl ⟨A, cap, by rw [HD.out.1, HD.out.2, Hcs.out], ?_, ?_⟩
  · exact results_cell_tmp Try.results14 (by rfl) (by rfl) (load_msg BR1.out Hcl.out)
  · rw [HD.out.1]
    rcases Hown.out.1 with h | ⟨L, h1, h2, h3, h4, h5⟩
    · exact .inl h
    · exact .inr ⟨L, h1, h2, h3, h4, h5.kept KR.out (fun h => Hown.out.2 L h2 h)⟩
  · exact KBh.out.trans (KR.out.below (B := w.heap.size) KBh.out.size (fun k hk => by show ¬ k = gr; have := Hgr.out; omega))

end Go.Proofs.Ytibcadfpengacaa

-- PLendEntriesx0
namespace Go.Proofs.Ytibcadfpengacaa.PLendEntries
open Go.RowKit Go.Proofs.YtibcadfpengacaaW.PrintWords Go.Proofs.YtibcadfpengacaaW.PrintLast Go.Proofs.YtibcadfpengacaaW.PrintMore
attribute [local go_sem] max2_int min2_int max_two min_two max_three min_three max_four min_four   -- for this text's walks alone
set_option linter.unusedVariables false
set_option linter.unusedSimpArgs false



def errW : Option Int → Value
  | none => .nilIface
  | some c => .iface 0 (.int .i64 c)
theorem errW_none : errW none = .nilIface := rfl
theorem errW_some (c : Int) : errW (some c) = .iface 0 (.int .i64 c) := rfl

theorem info99 : (Try.prog.info? 99).map (fun i => (i.zero, i.size, i.bytes)) = some (some (.agg #[(.string ⟨#[]⟩), (.int .u64 0), (.int .u64 0)]), 3, 32) := by kernel_rfl
-- the values' own types
/-! #### struct type 99 -/
structure S99 where
  f0 : ByteArray
  f1 : Int
  f2 : Int
def z99 : S99 := ⟨(⟨#[]⟩ : ByteArray), (0 : Int), (0 : Int)⟩
def k99 : Kd S99 := Kd.iso (Kd.pair Kd.string (Kd.pair (Kd.int .u64) (Kd.int .u64))) (fun x : S99 => (x.f0, x.f1, x.f2))
theorem k99_open {w : World} {x : S99} {cs : List Value} (h : k99.K w x cs) : cs = [.string x.f0, .int .u64 x.f1, .int .u64 x.f2] := by
  obtain ⟨_, _, rfl, rfl, ⟨_, _, rfl, rfl, rfl⟩⟩ := h
  exact rfl
theorem k99_openM {w : World} {base : Nat} {ok : Nat → Prop} {x : S99} {cs : List Value} (h : k99.M w base ok x cs) : cs = [.string x.f0, .int .u64 x.f1, .int .u64 x.f2] := by
  obtain ⟨_, _, rfl, rfl, ⟨_, _, rfl, rfl, rfl⟩⟩ := h
  exact rfl
theorem k99_mk (w : World) (x : S99)  : k99.K w x [.string x.f0, .int .u64 x.f1, .int .u64 x.f2] := ⟨[.string x.f0], [.int .u64 x.f1, .int .u64 x.f2], rfl, rfl, ⟨[.int .u64 x.f1], [.int .u64 x.f2], rfl, rfl, rfl⟩⟩
theorem k99_mkM (w : World) (base : Nat) (ok : Nat → Prop) (x : S99)  : k99.M w base ok x [.string x.f0, .int .u64 x.f1, .int .u64 x.f2] := ⟨[.string x.f0], [.int .u64 x.f1, .int .u64 x.f2], rfl, rfl, ⟨[.int .u64 x.f1], [.int .u64 x.f2], rfl, rfl, rfl⟩⟩
def rd_T99 (xs : List S99) (i : Int) : S99 := xs.getD i.toNat z99
theorem at_T99 {w : World} {A : Option Addr} {n : Nat} {xs : List S99} (h : Kd.C k99 w A n xs) (i : Int) (h0 : 0 ≤ i) (h1 : i < n) : ∃ ad , A = some ad ∧ w.cell? (ad.add (i.toNat * 3)) = some (.string (rd_T99 xs i).f0) ∧ w.cell? ⟨(ad.add (i.toNat * 3)).block, (ad.add (i.toNat * 3)).off + 1, none⟩ = some (.int .u64 (rd_T99 xs i).f1) ∧ w.cell? ⟨(ad.add (i.toNat * 3)).block, (ad.add (i.toNat * 3)).off + 2, none⟩ = some (.int .u64 (rd_T99 xs i).f2) := by
  obtain ⟨ad, c, e, _, hK, hc0⟩ := Kd.C_get h z99 i h0 h1
  have hc : ∀ j u, c[j]? = some u → w.cell? (ad.add (i.toNat * 3 + j)) = some u := hc0
  obtain rfl := k99_open hK
  exact ⟨ad, e, hc 0 _ rfl, by rw [← add_field _ _ 1 (by omega)]; exact hc 1 _ rfl, by rw [← add_field _ _ 2 (by omega)]; exact hc 2 _ rfl⟩

end Go.Proofs.Ytibcadfpengacaa.PLendEntries

-- Lend
namespace Go.Proofs.Ytibcadfpengacaa.PLendEntries
open Go.RowKit Go.Proofs.YtibcadfpengacaaW.PrintWords Go.Proofs.YtibcadfpengacaaW.PrintLast Go.Proofs.YtibcadfpengacaaW.PrintMore
attribute [local go_sem] max2_int min2_int max_two min_two max_three min_three max_four min_four   -- for this text's walks alone
set_option linter.unusedVariables false
set_option linter.unusedSimpArgs false

/-! ### holtlaw0_CopyEntries: function 44 -/
def holtlaw0_CopyEntries.f (l0 : List (S99)) : Option ((List (S99))) := (some (([] : List (S99)) : List (S99))).bind fun y101 => (if y101.length + l0.length < 4398046511104 then (some (y101 ++ l0)) else (none))
set_option maxHeartbeats 8000000 in
set_option maxRecDepth 100000 in
theorem holtlaw0_CopyEntries.calls (A0 : Option Addr) (c0 : Nat) (l0 : List (S99)) (r : List (S99)) (w : World) (hr0 : Kd.C k99 w A0 l0.length l0) (hc0 : l0.length ≤ c0) (h : holtlaw0_CopyEntries.f l0 = some r) :
    Calls Try.prog 44 #[.slice A0 l0.length c0] w fun e w' => ∃ v0_ : Value, e = .returned (v0_) ∧ Kd.R k99 99 w' w.heap.size (fun _ => True) v0_ r ∧ Below w.heap.size w w' := by
  have HR0 := Aside0.mk hr0
  have HC0 := Aside0.mk hc0
  clear hr0 hc0
  have HB := Aside0.mk (Below.refl w.heap.size w)
  have H : ((some (([] : List (S99)) : List (S99))).bind fun y101 => (if y101.length + l0.length < 4398046511104 then (some (y101 ++ l0)) else (none))) = some r := h
  clear h
  obtain ⟨y101, hy101⟩ : ∃ y_ : List (S99), y_ = (([] : List (S99))) := ⟨_, rfl⟩
  replace H : (if y101.length + l0.length < 4398046511104 then (some (y101 ++ l0)) else (none)) = some r := by first | (rw [hy101]; with_reducible exact H) | (have H2_ := (Option.bind_some _ _).symm.trans H; rw [hy101]; with_reducible exact H2_) | (have H2_ := (Option.bind_some _ _).symm.trans H; with_reducible exact H2_) | with_reducible exact H | (rw [hy101]; exact H) | exact H
  have Ny101 := Aside0.mk hy101
  clear hy101
  by_cases c2 : y101.length + l0.length < 4398046511104
  · rw [if_pos c2] at H
    have LMc2 := Aside0.mk c2
    clear c2
    obtain ⟨y104, hy104⟩ : ∃ y_ : List (S99), y_ = (y101 ++ l0) := ⟨_, rfl⟩
    replace H : (some y104) = some r := by first | (rw [hy104]; with_reducible exact H) | (have H2_ := (Option.bind_some _ _).symm.trans H; rw [hy104]; with_reducible exact H2_) | (have H2_ := (Option.bind_some _ _).symm.trans H; with_reducible exact H2_) | with_reducible exact H | (rw [hy104]; exact H) | exact H
    have Ny104 := Aside0.mk hy104
    clear hy104
    obtain rfl := Option.some.inj H
    go_enter Try.func44, Try.ntmps44
    go_wp2_with (first | ((with_reducible refine gate_dst (N := 3) rfl ?_); refine Kd.R_lit k99 _ 99 ?hg (N := 3) ?hd (xs := ([] : List (S99))) (inner := []) (ok := fun _ => True) (okp := fun _ => True) ?hr ?hp (fun _ hk => hk) trivial (Below.refl _ _) (Nat.le_refl _) (by simp) ?_; (case hd => rfl); (case hg => rfl); (case hr => first | (go_simp; done) | (go_simp; rfl)); (case hp => exact (Reps.none _ _)); intro v102 w3 ho4 hb hg_ hnew_; clear hg_ hnew_; (first | rw [← Ny101.out] at ho4 | (simp only [Int.reduceToNat] at ho4; rw [← Ny101.out] at ho4)); have n0_ := Aside0.mk (Kd.R_lower ho4 (below_size (by repeat (first | (with_reducible first | exact HB.out | apply below_alloc | apply pw_below_drewN | apply below_drew1) | exact HB.out)))); have n1_ := Aside0.mk (below_step (by repeat (first | (with_reducible first | exact HB.out | apply below_alloc | apply pw_below_drewN | apply below_drew1) | exact HB.out)) hb); clear HB; have HO103 := n0_; have HB := n1_; clear n0_ n1_; clear hb ho4) | ((with_reducible refine gate_builtin (b := .append) (xs := #[.tmp 3, .tmp 4]) rfl ?_); at_builtin; refine Kd.R_append_rows k99 (w0 := w) w.heap.size rfl (.tmp 3) (.tmp 4) 30 99 (.agg #[(.string ⟨#[]⟩), (.int .u64 0), (.int .u64 0)]) 32 rfl Try.underlying30 info99 rfl (by decide) (by omega) v102 y101 l0 _ _ _ (fun _ => True) (fun _ => False) rfl rfl ?aO ?aR (fun _ _ h => h) (fun _ h => h.elim) ?aF ?aB ?aS ?aL ?_; (case aR => repeat (first | exact (Kd.C_below HR0.out HB.out) | (with_reducible refine Kd.C_alloc ?_ _) | (with_reducible refine Kd.C_drewN ?_ _) | (with_reducible refine Kd.C_drew ?_))); (case aB => exact (by repeat (first | (with_reducible first | exact HB.out | apply below_alloc | apply pw_below_drewN | apply below_drew1) | exact HB.out))); (case aF => exact (fun _ _ => trivial)); (case aO => exact (by (with_reducible repeat (first | apply Kd.R_alloc | apply Kd.R_drewN | apply Kd.R_drew)); exact HO103.out)); (case aS => exact (below_size (by repeat (first | (with_reducible first | exact HB.out | apply below_alloc | apply pw_below_drewN | apply below_drew1) | exact HB.out)))); (case aL => have := LMc2.out; omega); intro v105 w5 ho hb hg hat; rw [← Ny104.out] at ho; have n0_ := Aside0.mk (hb); have n1_ := Aside0.mk (ho); clear HB; clear HO103; have HB := n0_; have HO106 := n1_; clear n0_ n1_; clear ho hb hg hat))
    go_ret
    exact ⟨_, by first | rfl | (simp [errW_none, errW_some] <;> rfl) | (simp [*, errW_none, errW_some] <;> rfl), by (with_reducible repeat (first | apply Kd.R_alloc | apply Kd.R_drewN | apply Kd.R_drew)); exact HO106.out, by repeat (first | (with_reducible first | exact HB.out | apply below_alloc | apply pw_below_drewN | apply below_drew1) | exact HB.out)⟩
  · rw [if_neg c2] at H
    exact absurd H (by simp)

/-! ### holtlaw0_LendEntries: function 31 -/
def holtlaw0_LendEntries.f (l0 : List (S99)) : Option ((List (S99))) := (holtlaw0_CopyEntries.f l0).bind fun t107 => ((some (([(⟨(⟨#[126, 114, 111, 111, 109]⟩ : ByteArray), 0, 0⟩ : S99), (⟨(⟨#[126, 114, 111, 111, 109]⟩ : ByteArray), 0, 0⟩ : S99)] : List (S99)) : List (S99))).bind fun y110 => (if t107.length + y110.length < 4398046511104 then ((some (t107 ++ y110 : List (S99))).bind fun y113 => (if 0 ≤ (l0.length : Int) then (if (l0.length : Int) ≤ (y113.length : Int) then (some (y113.take ((l0.length : Int) : Int).toNat)) else (none)) else (none))) else (none)))
def LendPost (l0 r : List S99) (w : World) (e : Ending) (w' : World) : Prop := ∃ (A : Option Addr) (c : Nat) (y t : List S99), e = .returned (.slice A r.length c) ∧ Kd.R k99 99 w' w.heap.size (fun _ => True) (.slice A y.length c) y ∧ holtlaw0_CopyEntries.f l0 = some t ∧ y = t ++ [(⟨(⟨#[126, 114, 111, 111, 109]⟩ : ByteArray), 0, 0⟩ : S99), (⟨(⟨#[126, 114, 111, 111, 109]⟩ : ByteArray), 0, 0⟩ : S99)] ∧ Below w.heap.size w w'
set_option maxHeartbeats 8000000 in
set_option maxRecDepth 100000 in
theorem holtlaw0_LendEntries.calls_room (A0 : Option Addr) (c0 : Nat) (l0 : List (S99)) (r : List (S99)) (w : World) (hr0 : Kd.C k99 w A0 l0.length l0) (hc0 : l0.length ≤ c0) (h : holtlaw0_LendEntries.f l0 = some r) :
    Calls Try.prog 31 #[.slice A0 l0.length c0] w (LendPost l0 r w) := by
  have hu99 := Try.underlying99
  have HR0 := Aside0.mk hr0
  have HC0 := Aside0.mk hc0
  clear hr0 hc0
  have HB := Aside0.mk (Below.refl w.heap.size w)
  have H : ((holtlaw0_CopyEntries.f l0).bind fun t107 => ((some (([(⟨(⟨#[126, 114, 111, 111, 109]⟩ : ByteArray), 0, 0⟩ : S99), (⟨(⟨#[126, 114, 111, 111, 109]⟩ : ByteArray), 0, 0⟩ : S99)] : List (S99)) : List (S99))).bind fun y110 => (if t107.length + y110.length < 4398046511104 then ((some (t107 ++ y110 : List (S99))).bind fun y113 => (if 0 ≤ (l0.length : Int) then (if (l0.length : Int) ≤ (y113.length : Int) then (some (y113.take ((l0.length : Int) : Int).toNat)) else (none)) else (none))) else (none)))) = some r := h
  clear h
  replace H := Option.bind_eq_some_iff.mp H
  obtain ⟨t107, A20, H⟩ := H
  replace H : ((some (([(⟨(⟨#[126, 114, 111, 111, 109]⟩ : ByteArray), 0, 0⟩ : S99), (⟨(⟨#[126, 114, 111, 111, 109]⟩ : ByteArray), 0, 0⟩ : S99)] : List (S99)) : List (S99))).bind fun y110 => (if t107.length + y110.length < 4398046511104 then ((some (t107 ++ y110 : List (S99))).bind fun y113 => (if 0 ≤ (l0.length : Int) then (if (l0.length : Int) ≤ (y113.length : Int) then (some (y113.take ((l0.length : Int) : Int).toNat)) else (none)) else (none))) else (none))) = some r := H
  have A2 := Aside0.mk A20
  clear A20
  obtain ⟨y110, hy110⟩ : ∃ y_ : List (S99), y_ = (([(⟨(⟨#[126, 114, 111, 111, 109]⟩ : ByteArray), 0, 0⟩ : S99), (⟨(⟨#[126, 114, 111, 111, 109]⟩ : ByteArray), 0, 0⟩ : S99)] : List (S99))) := ⟨_, rfl⟩
  replace H : (if t107.length + y110.length < 4398046511104 then ((some (t107 ++ y110 : List (S99))).bind fun y113 => (if 0 ≤ (l0.length : Int) then (if (l0.length : Int) ≤ (y113.length : Int) then (some (y113.take ((l0.length : Int) : Int).toNat)) else (none)) else (none))) else (none)) = some r := by first | (rw [hy110]; with_reducible exact H) | (have H2_ := (Option.bind_some _ _).symm.trans H; rw [hy110]; with_reducible exact H2_) | (have H2_ := (Option.bind_some _ _).symm.trans H; with_reducible exact H2_) | with_reducible exact H | (rw [hy110]; exact H) | exact H
  have Ny110 := Aside0.mk hy110
  clear hy110
  by_cases c3 : t107.length + y110.length < 4398046511104
  · rw [if_pos c3] at H
    have LMc3 := Aside0.mk c3
    clear c3
    obtain ⟨y113, hy113⟩ : ∃ y_ : List (S99), y_ = (t107 ++ y110) := ⟨_, rfl⟩
    replace H : (if 0 ≤ (l0.length : Int) then (if (l0.length : Int) ≤ (y113.length : Int) then (some (y113.take ((l0.length : Int) : Int).toNat)) else (none)) else (none)) = some r := by first | (rw [hy113]; with_reducible exact H) | (have H2_ := (Option.bind_some _ _).symm.trans H; rw [hy113]; with_reducible exact H2_) | (have H2_ := (Option.bind_some _ _).symm.trans H; with_reducible exact H2_) | with_reducible exact H | (rw [hy113]; exact H) | exact H
    have Ny113 := Aside0.mk hy113
    clear hy113
    by_cases c4 : 0 ≤ (l0.length : Int)
    · rw [if_pos c4] at H
      have c4b0 := eq_true c4
      have c4b1 : decide (0 ≤ (l0.length : Int)) = true := decide_eq_true c4
      clear c4
      by_cases c5 : (l0.length : Int) ≤ (y113.length : Int)
      · rw [if_pos c5] at H
        have c5b0 := eq_true c5
        have c5b1 : decide ((l0.length : Int) ≤ (y113.length : Int)) = true := decide_eq_true c5
        clear c5
        obtain ⟨y116, hy116⟩ : ∃ y_ : List (S99), y_ = (y113.take ((l0.length : Int) : Int).toNat) := ⟨_, rfl⟩
        replace H : (some y116) = some r := by first | (rw [hy116]; with_reducible exact H) | (have H2_ := (Option.bind_some _ _).symm.trans H; rw [hy116]; with_reducible exact H2_) | (have H2_ := (Option.bind_some _ _).symm.trans H; with_reducible exact H2_) | with_reducible exact H | (rw [hy116]; exact H) | exact H
        have Ny116 := Aside0.mk hy116
        clear hy116
        obtain rfl := Option.some.inj H
        go_enter Try.func31, Try.ntmps31
        go_wp2_with (first | ((with_reducible refine gate_callee (f := 44) rfl ?_); refine goesL_ (some 5) rfl rfl Try.func44 (by kernel_rfl) rfl #[.slice A0 l0.length c0] rfl (by (try simp only [List.map_toArray, List.map_cons, List.map_nil]); first | done | rfl | (simp only [List.length_drop, List.length_take]; rfl)) ?_; (with_reducible refine (holtlaw0_CopyEntries.calls _ _ l0 t107 _ ?side1 ?side2 A2.out).mono ?_); (case side1 => repeat (first | exact HR0.out | (with_reducible refine Kd.C_alloc ?_ _) | (with_reducible refine Kd.C_drewN ?_ _) | (with_reducible refine Kd.C_drew ?_))); (case side2 => exact HC0.out); rintro e w6 ⟨v108, rfl, ho0, hb⟩; refine ⟨_, rfl, ?_⟩; have n0_ := Aside0.mk (Kd.R_lower ho0 (below_size (by repeat (first | (with_reducible first | exact HB.out | apply below_alloc | apply pw_below_drewN | apply below_drew1) | exact HB.out)))); have n1_ := Aside0.mk (below_step (by repeat (first | (with_reducible first | exact HB.out | apply below_alloc | apply pw_below_drewN | apply below_drew1) | exact HB.out)) hb); clear HB; have HO109 := n0_; have HB := n1_; clear n0_ n1_; (try clear hb); (try clear hb2); (try clear hk); (try clear hi); (try clear ho0)) | ((with_reducible refine gate_dst (N := 8) rfl ?_); refine Kd.R_lit k99 _ 99 ?hg (N := 8) ?hd (xs := ([(⟨(⟨#[126, 114, 111, 111, 109]⟩ : ByteArray), 0, 0⟩ : S99), (⟨(⟨#[126, 114, 111, 111, 109]⟩ : ByteArray), 0, 0⟩ : S99)] : List (S99))) (inner := [.string (⟨#[126, 114, 111, 111, 109]⟩ : ByteArray), .int .u64 0, .int .u64 0, .string (⟨#[126, 114, 111, 111, 109]⟩ : ByteArray), .int .u64 0, .int .u64 0]) (ok := fun _ => True) (okp := fun _ => True) ?hr ?hp (fun _ hk => hk) trivial (Below.refl _ _) (Nat.le_refl _) (by simp) ?_; (case hd => rfl); (case hg => rfl); (case hr => first | (go_simp; done) | (go_simp; rfl)); (case hp => exact (Reps.c3 (show Kd.M k99 _ _ _ (⟨(⟨#[126, 114, 111, 111, 109]⟩ : ByteArray), 0, 0⟩ : S99) [.string (⟨#[126, 114, 111, 111, 109]⟩ : ByteArray), .int .u64 0, .int .u64 0] from (k99_mkM _ _ _ (⟨(⟨#[126, 114, 111, 111, 109]⟩ : ByteArray), 0, 0⟩ : S99) )) (Reps.c3 (show Kd.M k99 _ _ _ (⟨(⟨#[126, 114, 111, 111, 109]⟩ : ByteArray), 0, 0⟩ : S99) [.string (⟨#[126, 114, 111, 111, 109]⟩ : ByteArray), .int .u64 0, .int .u64 0] from (k99_mkM _ _ _ (⟨(⟨#[126, 114, 111, 111, 109]⟩ : ByteArray), 0, 0⟩ : S99) )) (Reps.none _ _)))); intro v111 w7 ho8 hb hg_ hnew_; clear hg_ hnew_; (first | rw [← Ny110.out] at ho8 | (simp only [Int.reduceToNat] at ho8; rw [← Ny110.out] at ho8)); have n0_ := Aside0.mk (Kd.R_elder' (by (with_reducible repeat (first | apply Kd.R_alloc | apply Kd.R_drewN | apply Kd.R_drew)); exact HO109.out) (Kd.R_base ho8) hb); have n1_ := Aside0.mk (Kd.R_lower (Kd.R_new' ho8 (Kd.R_lt (by (with_reducible repeat (first | apply Kd.R_alloc | apply Kd.R_drewN | apply Kd.R_drew)); exact HO109.out))) (below_size (by repeat (first | (with_reducible first | exact HB.out | apply below_alloc | apply pw_below_drewN | apply below_drew1) | exact HB.out)))); have n2_ := Aside0.mk (below_step (by repeat (first | (with_reducible first | exact HB.out | apply below_alloc | apply pw_below_drewN | apply below_drew1) | exact HB.out)) hb); clear HO109; clear HB; have HO109 := n0_; have HO112 := n1_; have HB := n2_; clear n0_ n1_ n2_; clear hb ho8; obtain ⟨Ao10, co10, eo10⟩ := Kd.R_slice HO112.out; subst eo10) | ((with_reducible refine gate_builtin (b := .append) (xs := #[.tmp 5, .tmp 8]) rfl ?_); at_builtin; refine Kd.R_append_rows k99 (w0 := w) w.heap.size rfl (.tmp 5) (.tmp 8) 30 99 (.agg #[(.string ⟨#[]⟩), (.int .u64 0), (.int .u64 0)]) 32 rfl Try.underlying30 info99 rfl (by decide) (by omega) v108 t107 y110 _ _ _ (fun k_ => some k_ ≠ (.slice Ao10 y110.length co10 : Value).ownBlock) (fun _ => False) rfl rfl ?aO ?aR (fun _ _ h => h) (fun _ h => h.elim) ?aF ?aB ?aS ?aL ?_; (case aR => repeat (first | exact (Kd.R_reads' HO112.out).2.2 | (with_reducible refine Kd.C_alloc ?_ _) | (with_reducible refine Kd.C_drewN ?_ _) | (with_reducible refine Kd.C_drew ?_))); (case aB => exact (by repeat (first | (with_reducible first | exact HB.out | apply below_alloc | apply pw_below_drewN | apply below_drew1) | exact HB.out))); (case aF => exact (fun k_ hk => Kd.fresh' (Kd.R_lt (by (with_reducible repeat (first | apply Kd.R_alloc | apply Kd.R_drewN | apply Kd.R_drew)); exact HO112.out)) k_ hk)); (case aO => exact (by (with_reducible repeat (first | apply Kd.R_alloc | apply Kd.R_drewN | apply Kd.R_drew)); exact Kd.R_mono HO109.out (fun _ hk => hk.2))); (case aS => exact (below_size (by repeat (first | (with_reducible first | exact HB.out | apply below_alloc | apply pw_below_drewN | apply below_drew1) | exact HB.out)))); (case aL => have := LMc3.out; omega); intro v114 w9 ho hb hg hat; rw [← Ny113.out] at ho; have n0_ := Aside0.mk (Kd.R_after (ok := (fun _ => True)) (by (with_reducible repeat (first | apply Kd.R_alloc | apply Kd.R_drewN | apply Kd.R_drew)); exact HO112.out) hg hat); have n1_ := Aside0.mk (hb); have n2_ := Aside0.mk (ho); clear HO112; clear HB; clear HO109; have HO112 := n0_; have HB := n1_; have HO115 := n2_; clear n0_ n1_ n2_; clear ho hb hg hat; obtain ⟨Ao11, co11, eo11⟩ := Kd.R_slice HO115.out; subst eo11; have q12 : ((l0.length : Int) : Int) ≤ ((y113.length : Int) : Int) := of_decide_eq_true (by first | (with_reducible assumption) | assumption); obtain ⟨i012, hi012, _, hsz12, _⟩ := info_parts info99; have hcut12 := cut_to (P := Try.prog) 30 99 .i64 Try.underlying30 hi012 Ao11 y113.length co11 (l0.length : Int) (of_decide_eq_true (by first | (with_reducible assumption) | assumption)) q12 (Kd.R_reads' HO115.out).2.1; have hr12 := Kd.R_take (m := ((l0.length : Int) : Int).toNat) HO115.out (by omega); have hy12 : y116.length = ((l0.length : Int) : Int).toNat := (by rw [Ny116.out, List.length_take]; omega); rw [← Ny116.out] at hr12; rw [← hy12] at hr12 hcut12; clear hy12 hi012 hsz12; have HO118 := Aside0.mk hr12; clear hr12; replace q12 := eq_true q12))
        go_ret
        exact ⟨_, _, _, _, rfl, Kd.R_mono HO115.out (fun _ _ => trivial), A2.out, by rw [Ny113.out, Ny110.out], by repeat (first | (with_reducible first | exact HB.out | apply below_alloc | apply pw_below_drewN | apply below_drew1) | exact HB.out)⟩
      · rw [if_neg c5] at H
        exact absurd H (by simp)
    · rw [if_neg c4] at H
      exact absurd H (by simp)
  · rw [if_neg c3] at H
    exact absurd H (by simp)

end Go.Proofs.Ytibcadfpengacaa.PLendEntries

-- Ents
set_option linter.unusedVariables false
set_option linter.unusedSimpArgs false
namespace Go.Proofs.Ytibcadfpengacaa
open Go.RowKit Go.Lib Go.Proofs.YtibcadfpengacaaW.PrintWords Go.Proofs.YtibcadfpengacaaW.PrintMore Go.Proofs.YtibcadfpengacaaW.PrintLast
attribute [local go_sem high] eqEnt

theorem entEq_self (a : ByteArray) (b c : Int) : entEq a b c a b c = true := by simp [entEq]

theorem EntsR.drewN {w : World} {A : Option Addr} {es : List Ent} (h : EntsR w A es) (n : Nat) : EntsR (w.drewN n) A es := fun i e he => by
  obtain ⟨b, o, e1, e2, e3, e4⟩ := h i e he
  exact ⟨b, o, e1, by simpa using e2, by simpa using e3, by simpa using e4⟩

set_option maxHeartbeats 4000000 in
set_option maxRecDepth 100000 in
theorem sameEntries_eq (A1 A2 : Option Addr) (c1 c2 : Nat) (es : List Ent) (hl : es.length ≤ 4398046511104) (w : World) (h1 : EntsR w A1 es) (h2 : EntsR w A2 es) :
    Calls Try.prog 62 #[.slice A1 es.length c1, .slice A2 es.length c2] w fun e w' => e = .returned (.bool true) ∧ ∃ n, w' = w.drewN n := by
  have H1 := Lib.hid h1; have H2 := Lib.hid h2
  clear h1 h2
  generalize hn : es.length = n at *
  have Hn := Lib.hid hn
  clear hn
  have hq : ((n : Int) != (n : Int)) = false := by simp
  go_enter Try.func62, Try.ntmps62
  go_wp2
  go_loopw [5] (fun i wr => ∃ k : Nat, k ≤ n ∧ i = .int .i64 k ∧ ∃ d, wr = w.drewN d) (fun i _ => n - (RowKit.intOf i).toNat)
  case atStart => exact ⟨0, Nat.zero_le _, rfl, 0, rfl⟩
  case round =>
    obtain ⟨k, hk, rfl, d, rfl⟩ := hrel
    by_cases hlt : k < n
    · obtain ⟨x, hx⟩ : ∃ x, es[k]? = some x := ⟨_, List.getElem?_eq_getElem (by have := Hn.out; omega)⟩
      obtain ⟨b1, o1, e1, p1, p2, p3⟩ := H1.out k x hx
      obtain ⟨b2, o2, e2, r1, r2, r3⟩ := H2.out k x hx
      clear hx
      obtain ⟨x1, x2, x3⟩ := x
      have ht := entEq_self x1 x2 x3
      replace p1 : w.cell? ⟨b1, o1 + k * 3, none⟩ = some (.string x1) := p1
      replace p2 : w.cell? ⟨b1, o1 + k * 3 + 1, none⟩ = some (.int .u64 x2) := p2
      replace p3 : w.cell? ⟨b1, o1 + k * 3 + 2, none⟩ = some (.int .u64 x3) := p3
      replace r1 : w.cell? ⟨b2, o2 + k * 3, none⟩ = some (.string x1) := r1
      replace r2 : w.cell? ⟨b2, o2 + k * 3 + 1, none⟩ = some (.int .u64 x2) := r2
      replace r3 : w.cell? ⟨b2, o2 + k * 3 + 2, none⟩ = some (.int .u64 x3) := r3
      obtain rfl := e1
      obtain rfl := e2
      go_wp2
      go_quiet (fail)
      go_wp2
      go_roundw
      case rel => exact ⟨k + 1, by omega, by go_num, _, rfl⟩
      case measure => simp [RowKit.intOf]; omega
    · have he : k = n := by omega
      subst he
      go_wp2
      go_ret
      exact ⟨rfl, d, rfl⟩

/-- A block of the call's own that begins with these entries. -/
def EntsB (w : World) (L : Nat) (es : List Ent) : Prop := ∃ cs, Blk w L 99 cs ∧ ∃ r, cs = es.flatMap Ent.vs ++ r
theorem EntsB.kept {S : Nat → Prop} {w w1 : World} {L : Nat} {es : List Ent} (h : EntsB w L es) (k : Keeps S w w1) (hn : ¬ S L) : EntsB w1 L es := by
  obtain ⟨cs, hb, hr⟩ := h
  exact ⟨cs, hb.kept k hn, hr⟩
theorem EntsB.lt {w : World} {L : Nat} {es : List Ent} (h : EntsB w L es) : L < w.heap.size := by
  obtain ⟨cs, hb, hr⟩ := h
  exact hb.lt
theorem flat_at (es : List Ent) (r : List Value) : ∀ (i : Nat) (e : Ent), es[i]? = some e → ∀ j v, e.vs[j]? = some v → (es.flatMap Ent.vs ++ r)[i * 3 + j]? = some v := by
  induction es with
  | nil => intro i e h; simp at h
  | cons x es ih =>
    intro i e h j v hv
    have hl : x.vs.length = 3 := rfl
    rw [List.flatMap_cons, List.append_assoc]
    cases i with
    | zero =>
      simp at h
      subst h
      have hj : j < x.vs.length := (List.getElem?_eq_some_iff.1 hv).1
      rw [Nat.zero_mul, Nat.zero_add, List.getElem?_append_left hj]
      exact hv
    | succ i =>
      have h2 := ih i e (by simpa using h) j v hv
      rw [List.getElem?_append_right (by omega), hl, show (i + 1) * 3 + j - 3 = i * 3 + j by omega]
      exact h2
theorem EntsB.reads {w : World} {L : Nat} {es : List Ent} (h : EntsB w L es) : EntsR w (some ⟨L, 0, none⟩) es := by
  obtain ⟨cs, hb, r, rfl⟩ := h
  intro i e he
  refine ⟨L, 0, rfl, ?_, ?_, ?_⟩
  · rw [Nat.zero_add]; exact hb.cell _ (flat_at es r i e he 0 _ rfl)
  · rw [Nat.zero_add]; exact hb.cell _ (flat_at es r i e he 1 _ rfl)
  · rw [Nat.zero_add]; exact hb.cell _ (flat_at es r i e he 2 _ rfl)
theorem EntsB.take {w : World} {L : Nat} {es fs : List Ent} (h : EntsB w L (es ++ fs)) : EntsB w L es := by
  obtain ⟨cs, hb, r, rfl⟩ := h
  exact ⟨_, hb, fs.flatMap Ent.vs ++ r, by rw [List.flatMap_append, List.append_assoc]⟩
theorem OwnEnts.reads {w0 w' : World} {A : Option Addr} {cap : Nat} {es : List Ent} (h : OwnEnts w0 w' A cap es) : EntsR w' A es := by
  rcases h with ⟨h1, h2, h3⟩ | ⟨L, h1, h2, h3, h4, h5⟩
  · subst h1; intro i e he; simp at he
  · subst h2; exact EntsB.reads ⟨_, h5, [], by simp⟩

/-- Each entry's name stands where it stands: a text. -/
def NamesAt (cs : List Value) (n : Nat) : Prop := ∀ j, j < n → ∃ s : ByteArray, cs[j * 3]? = some (.string s) ∧ s.size ≤ 140737488355329
theorem names_at {es : List Ent} (r : List Value) (h : ∀ e ∈ es, e.name.size ≤ 140737488355328) : NamesAt (es.flatMap Ent.vs ++ r) es.length := fun j hj => by
  refine ⟨es[j].name, ?_, ?_⟩
  · have := flat_at es r j es[j] (List.getElem?_eq_getElem hj) 0 _ rfl
    simpa using this
  · have := h _ (List.getElem_mem hj)
    omega

set_option maxHeartbeats 4000000 in
set_option maxRecDepth 100000 in
theorem spoil_any (L c : Nat) (es : List Ent) (hl : es.length ≤ 4398046511104) (hs : ∀ e ∈ es, e.name.size ≤ 140737488355328) (w : World) (h : EntsB w L es) :
    Calls Try.prog 17 #[.slice (some ⟨L, 0, none⟩) es.length c] w fun e w' => e = .returned (.tuple #[]) ∧ Keeps (fun k => k = L) w w' := by
  obtain ⟨cs, hb, r, rfl⟩ := h
  have hN := names_at r hs
  have HB := Lib.hid hb; have HN := Lib.hid hN
  clear hs hN hb
  generalize es.flatMap Ent.vs ++ r = cs at *
  generalize es.length = n at *
  go_enter Try.func17, Try.ntmps17
  go_wp2
  go_loopw [2] (fun i wr => ∃ k : Nat, k ≤ n ∧ i = .int .i64 k ∧ Keeps (fun k => k = L) w wr ∧ ∃ cs', Blk wr L 99 cs' ∧ ∀ j, k ≤ j → cs'[j * 3]? = cs[j * 3]?) (fun i _ => n - (RowKit.intOf i).toNat)
  case atStart => exact ⟨0, Nat.zero_le _, rfl, Keeps.refl _ _, cs, HB.out, fun _ _ => rfl⟩
  case round =>
    obtain ⟨k, hk, rfl, hkeep, cs', hb', hsame⟩ := hrel
    by_cases hlt : k < n
    · obtain ⟨s, hs1, hs2⟩ := HN.out k hlt
      have hc : wr.cell? ⟨L, k * 3, none⟩ = some (.string s) := hb'.cell _ ((hsame k (Nat.le_refl _)).trans hs1)
      have hf : wr.frozen? ⟨L, k * 3, none⟩ = false := hb'.frozen _
      have HK := Lib.hid hkeep; have HB' := Lib.hid hb'; have HS := Lib.hid hsame
      clear hkeep hb' hsame hs1
      go_wp2
      go_roundw
      case rel => exact ⟨k + 1, by omega, by go_num, HK.out.setCell (fun _ => rfl) _, _, HB'.out.set _ _, fun j hj => by rw [List.getElem?_set_ne (by omega)]; exact HS.out j (by omega)⟩
      case measure => simp [RowKit.intOf]; omega
    · have he : k = n := by omega
      subst he
      have HK := Lib.hid hkeep
      clear hkeep hb' hsame
      go_wp2
      go_end0
      exact ⟨rfl, HK.out⟩

/-- What stands behind a lent list. -/
def room : Ent := ⟨⟨#[126, 114, 111, 111, 109]⟩, 0, 0⟩
theorem EntsR.take {w : World} {A : Option Addr} {es fs : List Ent} (h : EntsR w A (es ++ fs)) : EntsR w A es := fun i e he => h i e (by
  rw [List.getElem?_append_left (List.getElem?_eq_some_iff.1 he).1]; exact he)

set_option maxHeartbeats 4000000 in
set_option maxRecDepth 100000 in
theorem keptEntries_eq (L : Nat) (A2 : Option Addr) (c1 c2 : Nat) (es : List Ent) (hl : es.length ≤ 4398046511104) (hc : es.length + 2 ≤ c1) (w : World) (h1 : EntsR w (some ⟨L, 0, none⟩) (es ++ [room, room])) (h2 : EntsR w A2 es) :
    Calls Try.prog 39 #[.slice (some ⟨L, 0, none⟩) es.length c1, .slice A2 es.length c2] w fun e w' => e = .returned (.bool true) ∧ ∃ n, w' = w.drewN n := by
  have C := Lib.hid (sameEntries_eq (some ⟨L, 0, none⟩) A2 c1 c2 es hl w h1.take h2)
  obtain ⟨b1, o1, e1, p1, p2, p3⟩ := h1 es.length room (by simp)
  obtain ⟨b2, o2, e2, q1, q2, q3⟩ := h1 (es.length + 1) room (by rw [List.getElem?_append_right (by omega)]; simp)
  injection e1 with e1; injection e1 with e1 e3 e4; subst e1; subst e3
  injection e2 with e2; injection e2 with e2 e5 e6; subst e2; subst e5
  clear h1 h2 e4 e6
  have ht := entEq_self ⟨#[126, 114, 111, 111, 109]⟩ 0 0
  generalize es.length = n at *
  replace p1 : w.cell? ⟨L, n * 3, none⟩ = some (.string ⟨#[126, 114, 111, 111, 109]⟩) := by rw [Nat.zero_add] at p1; exact p1
  replace p2 : w.cell? ⟨L, n * 3 + 1, none⟩ = some (.int .u64 0) := by rw [Nat.zero_add] at p2; exact p2
  replace p3 : w.cell? ⟨L, n * 3 + 2, none⟩ = some (.int .u64 0) := by rw [Nat.zero_add] at p3; exact p3
  replace q1 : w.cell? ⟨L, (n + 1) * 3, none⟩ = some (.string ⟨#[126, 114, 111, 111, 109]⟩) := by rw [Nat.zero_add] at q1; exact q1
  replace q2 : w.cell? ⟨L, (n + 1) * 3 + 1, none⟩ = some (.int .u64 0) := by rw [Nat.zero_add] at q2; exact q2
  replace q3 : w.cell? ⟨L, (n + 1) * 3 + 2, none⟩ = some (.int .u64 0) := by rw [Nat.zero_add] at q3; exact q3
  go_enter Try.func39, Try.ntmps39
  go_wp2_with fail
  refine C.out.mono ?_
  rintro e w2 ⟨rfl, d, rfl⟩
  go_wp2_with fail
  go_ret
  exact ⟨rfl, d, rfl⟩

def toE (e : Ent) : PLendEntries.S99 := ⟨e.name, e.ino, e.cookie⟩
theorem k99_of {w : World} {A : Option Addr} {es : List Ent} (hlen : es.length ≤ 4398046511104) (hA : EntsR w A es) : Kd.C PLendEntries.k99 w A (es.map toE).length (es.map toE) := by
  refine ⟨rfl, by rw [List.length_map]; omega, fun h => ?_⟩
  rw [List.length_map] at h
  obtain ⟨b, o, e, _⟩ := hA 0 _ (List.getElem?_eq_getElem h)
  refine ⟨⟨b, o, none⟩, e, fun j p hp => ?_⟩
  have hj : j < es.length := by
    have := (List.getElem?_eq_some_iff.1 hp).1
    rwa [List.length_map] at this
  have hpe : p = toE (es[j]'hj) := by simpa [hj] using hp.symm
  subst hpe
  obtain ⟨b2, o2, e2, q0, q1, q2⟩ := hA j _ (List.getElem?_eq_getElem hj)
  obtain ⟨rfl, rfl⟩ : b2 = b ∧ o2 = o := by rw [e] at e2; injection e2 with e2; injection e2 with e3 e4; exact ⟨e3.symm, e4.symm⟩
  refine ⟨_, rfl, PLendEntries.k99_mk w _, fun i u hu => ?_⟩
  have q0' : w.cell? (Addr.add ⟨b2, o2, none⟩ (j * 3)) = some (.string (es[j]'hj).name) := by rw [addr_plus]; exact q0
  have q1' : w.cell? (Addr.add ⟨b2, o2, none⟩ (j * 3 + 1)) = some (.int .u64 (es[j]'hj).ino) := by rw [addr_plus]; exact q1
  have q2' : w.cell? (Addr.add ⟨b2, o2, none⟩ (j * 3 + 2)) = some (.int .u64 (es[j]'hj).cookie) := by rw [addr_plus]; exact q2
  match i, hu with
  | 0, hu => obtain rfl := Option.some.inj hu; exact q0'
  | 1, hu => obtain rfl := Option.some.inj hu; exact q1'
  | 2, hu => obtain rfl := Option.some.inj hu; exact q2'
  | i + 3, hu => exact absurd hu (by simp)

theorem reps_flat {R : PLendEntries.S99 → List Value → Prop} (hR : ∀ x c, R x c → c = [.string x.f0, .int .u64 x.f1, .int .u64 x.f2]) : ∀ (es : List Ent) (inner : List Value), Reps R 3 (es.map toE) inner → inner = es.flatMap Ent.vs := by
  intro es
  induction es with
  | nil =>
    intro inner h
    exact List.eq_nil_of_length_eq_zero (by simpa using h.1)
  | cons x es ih =>
    intro inner h
    have h0 := hR _ _ (h.2 0 (toE x) rfl)
    rw [Nat.zero_mul, List.drop_zero] at h0
    have h1 := ih (inner.drop 3) ⟨by rw [List.length_drop, h.1]; simp; omega, fun j p hp => by
      have := h.2 (j + 1) p (by simpa using hp)
      rw [List.drop_drop, show 3 + j * 3 = (j + 1) * 3 by omega]
      exact this⟩
    rw [← List.take_append_drop 3 inner, h0, h1]
    rfl

/-- A row of the call's own that is not empty: a block that begins with the entries. -/
theorem own_ents {w : World} {base c : Nat} {A : Option Addr} {es : List Ent} (h : Kd.R PLendEntries.k99 99 w base (fun _ => True) (.slice A (es.map toE).length c) (es.map toE)) :
    (A = none ∧ c = 0 ∧ es = []) ∨ ∃ L, A = some ⟨L, 0, none⟩ ∧ base ≤ L ∧ es.length ≤ c ∧ EntsB w L es := by
  obtain ⟨_, inner, ho, hr⟩ := h
  obtain ⟨hin, ho⟩ := ho
  rcases ho with ⟨h1, h2⟩ | ⟨g, cap, cur, h1, h2, h3, h4, h5, h6, h7⟩
  · injection h1 with h1 h3 h4
    exact .inl ⟨h1, h4, by simpa using h3⟩
  · injection h1 with h1 h8 h9
    refine .inr ⟨g, h1, h2, by rw [h9]; simpa using h4, cur.toList, h3, ?_⟩
    have hf := reps_flat (fun x c h => PLendEntries.k99_openM h) es inner hr
    rw [← hf, ← h7]
    exact ⟨_, (List.take_append_drop _ _).symm⟩
theorem map_toE_room (es : List Ent) : es.map toE ++ [⟨⟨#[126, 114, 111, 111, 109]⟩, 0, 0⟩, ⟨⟨#[126, 114, 111, 111, 109]⟩, 0, 0⟩] = (es ++ [room, room]).map toE := by
  rw [List.map_append]
  rfl

/-- What a copy or a loan leaves: a list of the call's own. -/
def CopyPost (w : World) (es : List Ent) (e : Ending) (w' : World) : Prop :=
  ∃ A c, e = .returned (.slice A es.length c) ∧ ((A = none ∧ c = 0 ∧ es = []) ∨ ∃ L, A = some ⟨L, 0, none⟩ ∧ w.heap.size ≤ L ∧ es.length ≤ c ∧ EntsB w' L es) ∧ Below w.heap.size w w'
def LendPost (w : World) (es : List Ent) (e : Ending) (w' : World) : Prop :=
  ∃ L c, e = .returned (.slice (some ⟨L, 0, none⟩) es.length c) ∧ w.heap.size ≤ L ∧ es.length + 2 ≤ c ∧ EntsB w' L (es ++ [room, room]) ∧ Below w.heap.size w w'

theorem copyEntries_any (A : Option Addr) (c : Nat) (es : List Ent) (hl : es.length < 4398046511104) (hc : es.length ≤ c) (w : World) (h : EntsR w A es) :
    Calls Try.prog 44 #[.slice A es.length c] w (CopyPost w es) := by
  have hf : PLendEntries.holtlaw0_CopyEntries.f (es.map toE) = some (es.map toE) := by
    unfold PLendEntries.holtlaw0_CopyEntries.f
    rw [Option.bind_some, if_pos (by rw [List.length_map]; simpa using hl)]
    rfl
  have h1 := PLendEntries.holtlaw0_CopyEntries.calls A c (es.map toE) (es.map toE) w (k99_of (by omega) h) (by rw [List.length_map]; exact hc) hf
  rw [List.length_map] at h1
  refine h1.mono ?_
  rintro e w' ⟨v, rfl, hR, hb⟩
  obtain ⟨A', c', rfl⟩ := Kd.R_slice hR
  refine ⟨A', c', by rw [List.length_map], own_ents hR, hb⟩

theorem lendEntries_any (A : Option Addr) (c : Nat) (es : List Ent) (hl : es.length + 2 < 4398046511104) (hc : es.length ≤ c) (w : World) (h : EntsR w A es) :
    Calls Try.prog 31 #[.slice A es.length c] w (LendPost w es) := by
  have hf : PLendEntries.holtlaw0_CopyEntries.f (es.map toE) = some (es.map toE) := by
    unfold PLendEntries.holtlaw0_CopyEntries.f
    rw [Option.bind_some, if_pos (by rw [List.length_map]; simp; omega)]
    rfl
  have hg : PLendEntries.holtlaw0_LendEntries.f (es.map toE) = some (es.map toE) := by
    unfold PLendEntries.holtlaw0_LendEntries.f
    rw [hf, Option.bind_some, Option.bind_some, if_pos (by rw [List.length_map]; simp; omega), Option.bind_some, if_pos (by omega), if_pos (by simp; omega)]
    simp
  have h1 := PLendEntries.holtlaw0_LendEntries.calls_room A c (es.map toE) (es.map toE) w (k99_of (by omega) h) (by rw [List.length_map]; exact hc) hg
  rw [List.length_map] at h1
  refine h1.mono ?_
  rintro e w' ⟨A', c', y, t, rfl, hR, h2, rfl, hb⟩
  rw [hf] at h2
  obtain rfl := Option.some.inj h2
  rw [map_toE_room] at hR
  rcases own_ents hR with ⟨_, _, h3⟩ | ⟨L, h3, h4, h5, h6⟩
  · simp at h3
  · subst h3
    exact ⟨L, c', by rw [List.length_map], h4, by simpa using h5, h6, hb⟩

end Go.Proofs.Ytibcadfpengacaa

-- Same
set_option linter.unusedVariables false
set_option linter.unusedSimpArgs false
namespace Go.Proofs.Ytibcadfpengacaa
open Go.RowKit Go.Lib Go.Proofs.YtibcadfpengacaaW.PrintWords Go.Proofs.YtibcadfpengacaaW.PrintMore Go.Proofs.YtibcadfpengacaaW.PrintLast
attribute [local go_sem high] eqHd eqAttr eqStamp eqEnt eqAsk

theorem hdEq_self (a b c d : Int) : hdEq a b c d a b c d = true := by simp [hdEq]
theorem attrEq_self (a b c d : Int) : attrEq a b c d a b c d = true := by simp [attrEq]
theorem stampEq_self (a b : Int) : stampEq a b a b = true := by simp [stampEq]
theorem askEq_self (a b c d e f g h i : Int) (j k : ByteArray) (l m : Int) (n : ByteArray) : askEq a b c d e f g h i j k l m n a b c d e f g h i j k l m n = true := by simp [askEq, hdEq]

theorem run_box (P : Program) (ev : Operand → Value) (o : Oper) (t : TypeId) (x : Operand) (cs : Array Value) (ho : o.op = .box t x) (hx : ev x = .agg cs) (w : World) : (execOp ev o).run P w = .ok (.value (.pointer (some ⟨w.heap.size, 0, none⟩))) (w.alloc (.cells cs t (0, 0))) := by
  unfold execOp
  rw [ho]
  go_simp

theorem EntsR.below {w w1 : World} {A : Option Addr} {es : List Ent} (h : EntsR w A es) (hb : Below w.heap.size w w1) : EntsR w1 A es := h.kept (Keeps.of_below_all (S := fun _ => False) hb) (fun _ _ _ _ h => h)
theorem EntsR.alloc {w : World} {A : Option Addr} {es : List Ent} (h : EntsR w A es) (o : Obj) : EntsR (w.alloc o) A es := h.below ((Below.refl _ _).alloc (Nat.le_refl _) _)
theorem below_drewN {B : Nat} {w w1 : World} (h : Below B w w1) (n : Nat) : Below B w (w1.drewN n) := ⟨h.os, h.tape, h.output, h.size, h.block⟩
theorem EntsB.below {w w1 : World} {L : Nat} {es : List Ent} (h : EntsB w L es) (hb : Below w.heap.size w w1) : EntsB w1 L es := h.kept (Keeps.of_below_all (S := fun _ => False) hb) (fun h => h)

theorem Blk.part {w : World} {b : Nat} {t : TypeId} {cs : List Value} (h : Blk w b t cs) (o : Nat) (ps : List Value) (hp : ∀ j v, ps[j]? = some v → cs[o + j]? = some v) : w.rangeAt b o ps := fun j v hv => h.cell _ (hp j v hv)

set_option maxHeartbeats 4000000 in
set_option maxRecDepth 100000 in
theorem sameAnswer_eq (status ae asn ai ag akind links size change : Int) (adata : ByteArray) (eof : Bool) (anum : Int) (A1 A2 : Option Addr) (c1 c2 : Nat) (es : List Ent) (hl : es.length ≤ 4398046511104) (w : World) (h1 : EntsR w A1 es) (h2 : EntsR w A2 es) :
    Calls Try.prog 43 #[.agg #[.int .i64 status, .int .u32 ae, .int .u64 asn, .int .u64 ai, .int .u64 ag, .int .i64 akind, .int .u32 links, .int .u64 size, .int .u64 change, .string adata, .bool eof, .int .u64 anum, .slice A1 es.length c1], .agg #[.int .i64 status, .int .u32 ae, .int .u64 asn, .int .u64 ai, .int .u64 ag, .int .i64 akind, .int .u32 links, .int .u64 size, .int .u64 change, .string adata, .bool eof, .int .u64 anum, .slice A2 es.length c2]] w fun e w' => e = .returned (.bool true) ∧ Below w.heap.size w w' := by
  have H1 := Lib.hid h1; have H2 := Lib.hid h2
  have Hl := Lib.hid hl
  clear h1 h2 hl
  have t1 := hdEq_self ae asn ai ag
  have t2 := attrEq_self akind links size change
  have t3 : (eof == eof) = true := by simp
  go_enter Try.func43, Try.ntmps43
  go_wp2_with fail
  refine (sameEntries_eq A1 A2 c1 c2 es Hl.out _ ((H1.out.alloc _).alloc _) ((H2.out.alloc _).alloc _)).mono ?_
  rintro e w2 ⟨rfl, d, rfl⟩
  go_wp2_with fail
  go_ret
  exact ⟨rfl, below_drewN (((Below.refl _ _).alloc (Nat.le_refl _) _).alloc (by simp) _) _⟩

theorem part_of (a ps b : List Value) (j : Nat) (v : Value) (h : ps[j]? = some v) : (a ++ (ps ++ b))[a.length + j]? = some v := by
  rw [List.getElem?_append_right (by omega), Nat.add_sub_cancel_left, List.getElem?_append_left (List.getElem?_eq_some_iff.1 h).1]
  exact h
/-- The cells of a message but for its list's. -/
structure MsgAt (cs : List Value) (m : Msg) (A : Option Addr) (c : Nat) : Prop where
  len : cs.length = 33
  one : ∀ v ∈ cs, v.oneCell' = true
  c0 : cs[0]? = some (.int .i64 m.kind)
  c1 : cs[1]? = some (.int .u32 m.client)
  c2 : cs[2]? = some (.int .u64 m.xid)
  ask : ∀ j v, [Value.int .i64 m.op, .int .u32 m.h.ex, .int .u64 m.h.snap, .int .u64 m.h.ino, .int .u64 m.h.gen, .int .u32 m.h2.ex, .int .u64 m.h2.snap, .int .u64 m.h2.ino, .int .u64 m.h2.gen, .string m.name, .string m.name2, .int .u64 m.off, .int .u64 m.num, .string m.data][j]? = some v → cs[3 + j]? = some v
  ans : ∀ j v, [Value.int .i64 m.status, .int .u32 m.ah.ex, .int .u64 m.ah.snap, .int .u64 m.ah.ino, .int .u64 m.ah.gen, .int .i64 m.akind, .int .u32 m.links, .int .u64 m.size, .int .u64 m.change, .string m.adata, .bool m.eof, .int .u64 m.anum, .slice A m.list.length c][j]? = some v → cs[17 + j]? = some v
  c30 : cs[30]? = some (.int .u64 m.boot)
  c31 : cs[31]? = some (.int .u64 m.gb)
  c32 : cs[32]? = some (.int .u64 m.gn)
theorem MsgAt.of (m : Msg) (A : Option Addr) (c : Nat) : MsgAt (m.vs (.slice A m.list.length c)) m A c where
  len := rfl
  one := m.one A _ c
  c0 := rfl
  c1 := rfl
  c2 := rfl
  ask := fun j v h => part_of ((m.vs (.slice A m.list.length c)).take 3) _ ((m.vs (.slice A m.list.length c)).drop 17) j v h
  ans := fun j v h => part_of ((m.vs (.slice A m.list.length c)).take 17) _ ((m.vs (.slice A m.list.length c)).drop 30) j v h
  c30 := rfl
  c31 := rfl
  c32 := rfl

theorem infoAsk : (Try.prog.info? 27).map (·.size) = some 14 := by kernel_rfl
theorem infoAns : (Try.prog.info? 32).map (·.size) = some 13 := by kernel_rfl

set_option maxHeartbeats 4000000 in
set_option maxRecDepth 100000 in
theorem same_raw (m : Msg) (A1 A2 : Option Addr) (c1 c2 : Nat) (x y : List Value) (hx : MsgAt x m A1 c1) (hy : MsgAt y m A2 c2) (hl : m.list.length ≤ 4398046511104) (w : World) (h1 : EntsR w A1 m.list) (h2 : EntsR w A2 m.list) :
    Calls Try.prog 16 #[.agg x.toArray, .agg y.toArray] w fun e w' => e = .returned (.bool true) ∧ Below w.heap.size w w' := by
  have H1 := Lib.hid h1; have H2 := Lib.hid h2
  have Hl := Lib.hid hl; have HX := Lib.hid hx; have HY := Lib.hid hy
  have t0 := askEq_self m.op m.h.ex m.h.snap m.h.ino m.h.gen m.h2.ex m.h2.snap m.h2.ino m.h2.gen m.name m.name2 m.off m.num m.data
  have t1 := stampEq_self m.gb m.gn
  clear h1 h2 hl hx hy
  go_enter Try.func16, Try.ntmps16
  go_wp2_with (first
    | ((with_reducible refine gate_dst (N := 2) rfl ?_); refine box_event rfl (N := 2) rfl (run_box _ _ _ 36 _ x.toArray rfl rfl _) ?_; intro gx hgx v1 hbox hbel; have BX0 := Lib.hid (show Blk v1 gx 36 x from hbox); have BL0 := Lib.hid hbel; clear hbox hbel hgx)
    | ((with_reducible refine gate_dst (N := 3) rfl ?_); refine box_event rfl (N := 3) rfl (run_box _ _ _ 36 _ y.toArray rfl rfl _) ?_; intro gy hgy v2 hbox hbel; have BY := Lib.hid (show Blk v2 gy 36 y from hbox); have BX := Lib.hid (BX0.out.below hbel); have BL := Lib.hid (BL0.out.trans (hbel.mono BL0.out.size)); have x0 := BX.out.cell 0 HX.out.c0; have x1 := BX.out.cell 1 HX.out.c1; have x2 := BX.out.cell 2 HX.out.c2; have y0 := BY.out.cell 0 HY.out.c0; have y1 := BY.out.cell 1 HY.out.c1; have y2 := BY.out.cell 2 HY.out.c2; clear hbox hbel hgy BX0 BL0)
    | ((with_reducible refine gate_dst (N := 26) rfl ?_); refine gate_guard (by rfl) ?_; refine wpList_load_mid rfl 27 _ rfl gx 3 rfl _ _ (BX.out.part 3 _ HX.out.ask) Try.underlying27 rfl infoAsk ?_)
    | ((with_reducible refine gate_dst (N := 28) rfl ?_); refine gate_guard (by rfl) ?_; refine wpList_load_mid rfl 27 _ rfl gy 3 rfl _ _ (BY.out.part 3 _ HY.out.ask) Try.underlying27 rfl infoAsk ?_)
    | ((with_reducible refine gate_dst (N := 33) rfl ?_); refine gate_guard (by rfl) ?_; refine wpList_load_mid rfl 32 _ rfl gx 17 rfl _ _ (BX.out.part 17 _ HX.out.ans) Try.underlying32 rfl infoAns ?_)
    | ((with_reducible refine gate_dst (N := 35) rfl ?_); refine gate_guard (by rfl) ?_; refine wpList_load_mid rfl 32 _ rfl gy 17 rfl _ _ (BY.out.part 17 _ HY.out.ans) Try.underlying32 rfl infoAns ?_))
  refine (sameAnswer_eq m.status m.ah.ex m.ah.snap m.ah.ino m.ah.gen m.akind m.links m.size m.change m.adata m.eof m.anum A1 A2 c1 c2 m.list Hl.out v2 (H1.out.below BL.out) (H2.out.below BL.out)).mono ?_
  rintro e w3 ⟨rfl, hb⟩
  have BX3 := BX.out.below hb
  have BY3 := BY.out.below hb
  have KB := Lib.hid (BL.out.trans (hb.mono BL.out.size))
  have z30 := BX3.cell 30 HX.out.c30
  have z31 := BX3.cell 31 HX.out.c31
  have z32 := BX3.cell 32 HX.out.c32
  have v30 := BY3.cell 30 HY.out.c30
  have v31 := BY3.cell 31 HY.out.c31
  have v32 := BY3.cell 32 HY.out.c32
  clear BX3 BY3 hb x0 x1 x2 y0 y1 y2 H1 H2 BX BY BL
  go_wp2_with fail
  go_ret
  exact ⟨rfl, KB.out⟩

theorem one_set {x : List Value} (h : ∀ v ∈ x, v.oneCell' = true) {i : Nat} {A : Option Addr} {n c : Nat} : ∀ v ∈ x.set i (.slice A n c), v.oneCell' = true := fun v hv => by
  rcases List.mem_or_eq_of_mem_set hv with h1 | h1
  · exact h v h1
  · subst h1; rfl
/-- The list's cell put anew. -/
theorem vs_set (m : Msg) (L L' : Value) : (m.vs L).set 29 L' = m.vs L' := rfl

def MCopyPost (w : World) (m : Msg) (e : Ending) (w' : World) : Prop :=
  ∃ A c, e = .returned (.agg (m.vs (.slice A m.list.length c)).toArray) ∧ ((A = none ∧ c = 0 ∧ m.list = []) ∨ ∃ L, A = some ⟨L, 0, none⟩ ∧ w.heap.size ≤ L ∧ m.list.length ≤ c ∧ EntsB w' L m.list) ∧ Below w.heap.size w w'
def MLendPost (w : World) (m : Msg) (e : Ending) (w' : World) : Prop :=
  ∃ L c, e = .returned (.agg (m.vs (.slice (some ⟨L, 0, none⟩) m.list.length c)).toArray) ∧ w.heap.size ≤ L ∧ m.list.length + 2 ≤ c ∧ EntsB w' L (m.list ++ [room, room]) ∧ Below w.heap.size w w'

set_option maxHeartbeats 4000000 in
set_option maxRecDepth 100000 in
theorem copyM_raw (x : List Value) (hxl : x.length = 33) (hxo : ∀ v ∈ x, v.oneCell' = true) (s : Value) (hs : x[29]? = some s) (w : World) (Q : World → Option Addr → Nat → Nat → World → Prop)
    (hQ : ∀ w0, Below w.heap.size w w0 → Calls Try.prog 44 #[s] w0 (fun e w' => ∃ A n c, e = .returned (.slice A n c) ∧ Q w0 A n c w' ∧ Below w0.heap.size w0 w')) :
    Calls Try.prog 18 #[.agg x.toArray] w fun e w' => ∃ A n c w0 w1, e = .returned (.agg (x.set 29 (.slice A n c)).toArray) ∧ Q w0 A n c w1 ∧ w.heap.size ≤ w0.heap.size ∧ w0.heap.size ≤ w1.heap.size ∧ Keeps (fun k => w.heap.size ≤ k ∧ k < w0.heap.size) w1 w' ∧ Below w.heap.size w w' := by
  have HQ := Lib.hid hQ; have Hxl := Lib.hid hxl; have Hxo := Lib.hid hxo; have Hsz := Lib.hid infoMsg
  have Hs := Lib.hid hs
  clear hQ hxl hxo hs
  go_enter Try.func18, Try.ntmps18
  go_wp2_with (first
    | ((with_reducible refine gate_dst (N := 1) rfl ?_); refine box_event rfl (N := 1) rfl (run_box _ _ _ 36 _ x.toArray rfl rfl _) ?_; intro gx hgx v1 hbox hbel; have BX0 := Lib.hid (show Blk v1 gx 36 x from hbox); have BL0 := Lib.hid hbel; have HGX := Lib.hid hgx; have HLX := Lib.hid (BX0.out.lt); clear hbox hbel hgx)
    | ((with_reducible refine gate_dst (N := 2) rfl ?_); refine box_event rfl (N := 2) rfl (run_allocM _ _ rfl _) ?_; intro gr hgr v2 hbox hbel; have BR := Lib.hid (show Blk v2 gr 36 zcs from hbox); have BX := Lib.hid (BX0.out.below hbel); have HGR := Lib.hid hgr; have BL := Lib.hid (BL0.out.trans (hbel.mono BL0.out.size)); have x29 := BX.out.cell 29 Hs.out; clear hbox hbel hgr BX0))
  refine (HQ.out v2 BL.out).mono ?_
  rintro e w3 ⟨A, n, c, rfl, hq, hb⟩
  have HLT := Lib.hid (show w.heap.size ≤ gx ∧ gx < v2.heap.size ∧ w.heap.size ≤ gr ∧ gr < v2.heap.size ∧ gx ≠ gr by
    have h1 := HGX.out
    have h2 := HGR.out
    have h3 := HLX.out
    have h4 := BX.out.lt
    have h5 := BR.out.lt
    omega)
  have BX3 := Lib.hid (BX.out.below hb)
  have BR3 := Lib.hid (BR.out.below hb)
  have KB := Lib.hid (BL.out.trans (hb.mono BL.out.size))
  have HQ3 := Lib.hid hq
  have HS3 := Lib.hid hb.size
  have HV2 := Lib.hid BL.out.size
  have c29 := BX3.out.cell 29 Hs.out
  have f29 := BX3.out.frozen 29
  clear hb hq BX BR BL BL0 HGX HGR HLX x29 HQ
  go_wp2_with (first
    | ((with_reducible refine gate_dst (N := 9) rfl ?_); have BX4 := Lib.hid (BX3.out.set 29 (.slice A n c)); refine wpList_load_mid rfl 36 _ rfl gx 0 rfl (x.set 29 (.slice A n c)) _ ?hc Try.underlying36 rfl ?hi ?_; (case hc => exact BX4.out.range); (case hi => rw [List.length_set, Hxl.out]; exact Hsz.out))
    | ((with_reducible refine gate_store (t := 36) (p := 2) rfl ?_); have BR4 := Lib.hid (BR3.out.other (a := ⟨gx, 29, none⟩) (by have := HLT.out; show gr ≠ gx; omega) (.slice A n c)); have KX := Lib.hid ((Keeps.refl (fun k => w.heap.size ≤ k ∧ k < v2.heap.size) w3).setCell (a := ⟨gx, 29, none⟩) (fun _ => ⟨HLT.out.1, HLT.out.2.1⟩) (.slice A n c)); generalize w3.setCell ⟨gx, 29, none⟩ (.slice A n c) = w4 at *; refine wpList_store_mid rfl 36 _ _ rfl gr 0 (x.set 29 (.slice A n c)).toArray rfl rfl ?ht ?hi ?h1 ?_; (case ht => exact BR4.out.there _ (by rw [List.size_toArray, List.length_set, Hxl.out]; exact Nat.le_refl 33)); (case hi => rw [List.size_toArray, List.length_set, Hxl.out]; exact Hsz.out); (case h1 => exact all_oneCell_toArray (one_set Hxo.out)); have BR5 := Lib.hid (BR4.out.setAll (x.set 29 (.slice A n c)) (by rw [List.length_set, Hxl.out]; rfl)); have KR := Lib.hid (Keeps.setCells (S := fun k => w.heap.size ≤ k ∧ k < v2.heap.size) (x.set 29 (.slice A n c)) 0 w4 (Keeps.refl _ _) (fun _ => ⟨HLT.out.2.2.1, HLT.out.2.2.2.1⟩)); change wpList _ _ _ _ _ (w4.setCells gr 0 (x.set 29 (.slice A n c))); generalize w4.setCells gr 0 (x.set 29 (.slice A n c)) = w5 at BR5 KR ⊢))
  have HK := KX.out.trans KR.out (fun _ _ h => h)
  refine bodyPost_ret (v := .agg (x.set 29 (.slice A n c)).toArray) ?_ rfl ⟨A, n, c, v2, w3, rfl, HQ3.out, HV2.out, HS3.out, HK, ?_⟩
  · exact results_cell Try.results18 (by rfl) (load_msg BR5.out (by rw [List.length_set, Hxl.out]))
  · exact KB.out.trans (HK.below KB.out.size (fun k hk h => by omega))

set_option maxHeartbeats 4000000 in
set_option maxRecDepth 100000 in
theorem lendM_raw (x : List Value) (hxl : x.length = 33) (hxo : ∀ v ∈ x, v.oneCell' = true) (s : Value) (hs : x[29]? = some s) (w : World) (Q : World → Option Addr → Nat → Nat → World → Prop)
    (hQ : ∀ w0, Below w.heap.size w w0 → Calls Try.prog 31 #[s] w0 (fun e w' => ∃ A n c, e = .returned (.slice A n c) ∧ Q w0 A n c w' ∧ Below w0.heap.size w0 w')) :
    Calls Try.prog 8 #[.agg x.toArray] w fun e w' => ∃ A n c w0 w1, e = .returned (.agg (x.set 29 (.slice A n c)).toArray) ∧ Q w0 A n c w1 ∧ w.heap.size ≤ w0.heap.size ∧ w0.heap.size ≤ w1.heap.size ∧ Keeps (fun k => w.heap.size ≤ k ∧ k < w0.heap.size) w1 w' ∧ Below w.heap.size w w' := by
  have HQ := Lib.hid hQ; have Hxl := Lib.hid hxl; have Hxo := Lib.hid hxo; have Hsz := Lib.hid infoMsg
  have Hs := Lib.hid hs
  clear hQ hxl hxo hs
  go_enter Try.func8, Try.ntmps8
  go_wp2_with (first
    | ((with_reducible refine gate_dst (N := 1) rfl ?_); refine box_event rfl (N := 1) rfl (run_box _ _ _ 36 _ x.toArray rfl rfl _) ?_; intro gx hgx v1 hbox hbel; have BX0 := Lib.hid (show Blk v1 gx 36 x from hbox); have BL0 := Lib.hid hbel; have HGX := Lib.hid hgx; have HLX := Lib.hid (BX0.out.lt); clear hbox hbel hgx)
    | ((with_reducible refine gate_dst (N := 2) rfl ?_); refine box_event rfl (N := 2) rfl (run_allocM _ _ rfl _) ?_; intro gr hgr v2 hbox hbel; have BR := Lib.hid (show Blk v2 gr 36 zcs from hbox); have BX := Lib.hid (BX0.out.below hbel); have HGR := Lib.hid hgr; have BL := Lib.hid (BL0.out.trans (hbel.mono BL0.out.size)); have x29 := BX.out.cell 29 Hs.out; clear hbox hbel hgr BX0))
  refine (HQ.out v2 BL.out).mono ?_
  rintro e w3 ⟨A, n, c, rfl, hq, hb⟩
  have HLT := Lib.hid (show w.heap.size ≤ gx ∧ gx < v2.heap.size ∧ w.heap.size ≤ gr ∧ gr < v2.heap.size ∧ gx ≠ gr by
    have h1 := HGX.out
    have h2 := HGR.out
    have h3 := HLX.out
    have h4 := BX.out.lt
    have h5 := BR.out.lt
    omega)
  have BX3 := Lib.hid (BX.out.below hb)
  have BR3 := Lib.hid (BR.out.below hb)
  have KB := Lib.hid (BL.out.trans (hb.mono BL.out.size))
  have HQ3 := Lib.hid hq
  have HS3 := Lib.hid hb.size
  have HV2 := Lib.hid BL.out.size
  have c29 := BX3.out.cell 29 Hs.out
  have f29 := BX3.out.frozen 29
  clear hb hq BX BR BL BL0 HGX HGR HLX x29 HQ
  go_wp2_with (first
    | ((with_reducible refine gate_dst (N := 9) rfl ?_); have BX4 := Lib.hid (BX3.out.set 29 (.slice A n c)); refine wpList_load_mid rfl 36 _ rfl gx 0 rfl (x.set 29 (.slice A n c)) _ ?hc Try.underlying36 rfl ?hi ?_; (case hc => exact BX4.out.range); (case hi => rw [List.length_set, Hxl.out]; exact Hsz.out))
    | ((with_reducible refine gate_store (t := 36) (p := 2) rfl ?_); have BR4 := Lib.hid (BR3.out.other (a := ⟨gx, 29, none⟩) (by have := HLT.out; show gr ≠ gx; omega) (.slice A n c)); have KX := Lib.hid ((Keeps.refl (fun k => w.heap.size ≤ k ∧ k < v2.heap.size) w3).setCell (a := ⟨gx, 29, none⟩) (fun _ => ⟨HLT.out.1, HLT.out.2.1⟩) (.slice A n c)); generalize w3.setCell ⟨gx, 29, none⟩ (.slice A n c) = w4 at *; refine wpList_store_mid rfl 36 _ _ rfl gr 0 (x.set 29 (.slice A n c)).toArray rfl rfl ?ht ?hi ?h1 ?_; (case ht => exact BR4.out.there _ (by rw [List.size_toArray, List.length_set, Hxl.out]; exact Nat.le_refl 33)); (case hi => rw [List.size_toArray, List.length_set, Hxl.out]; exact Hsz.out); (case h1 => exact all_oneCell_toArray (one_set Hxo.out)); have BR5 := Lib.hid (BR4.out.setAll (x.set 29 (.slice A n c)) (by rw [List.length_set, Hxl.out]; rfl)); have KR := Lib.hid (Keeps.setCells (S := fun k => w.heap.size ≤ k ∧ k < v2.heap.size) (x.set 29 (.slice A n c)) 0 w4 (Keeps.refl _ _) (fun _ => ⟨HLT.out.2.2.1, HLT.out.2.2.2.1⟩)); change wpList _ _ _ _ _ (w4.setCells gr 0 (x.set 29 (.slice A n c))); generalize w4.setCells gr 0 (x.set 29 (.slice A n c)) = w5 at BR5 KR ⊢))
  have HK := KX.out.trans KR.out (fun _ _ h => h)
  refine bodyPost_ret (v := .agg (x.set 29 (.slice A n c)).toArray) ?_ rfl ⟨A, n, c, v2, w3, rfl, HQ3.out, HV2.out, HS3.out, HK, ?_⟩
  · exact results_cell Try.results8 (by rfl) (load_msg BR5.out (by rw [List.length_set, Hxl.out]))
  · exact KB.out.trans (HK.below KB.out.size (fun k hk h => by omega))

theorem copyMessage_any (m : Msg) (A : Option Addr) (c : Nat) (hl : m.list.length < 4398046511104) (hc : m.list.length ≤ c) (w : World) (h : EntsR w A m.list) :
    Calls Try.prog 18 #[.agg (m.vs (.slice A m.list.length c)).toArray] w (MCopyPost w m) := by
  refine (copyM_raw _ rfl (m.one _ _ _) (.slice A m.list.length c) rfl w (fun w0 A n c w' => n = m.list.length ∧ ((A = none ∧ c = 0 ∧ m.list = []) ∨ ∃ L, A = some ⟨L, 0, none⟩ ∧ w0.heap.size ≤ L ∧ L < w'.heap.size ∧ m.list.length ≤ c ∧ EntsB w' L m.list)) ?_).mono ?_
  · intro w0 hb
    refine (copyEntries_any A c m.list hl hc w0 (h.below hb)).mono ?_
    rintro e w' ⟨A', c', rfl, h1, h2⟩
    refine ⟨A', _, c', rfl, ⟨rfl, ?_⟩, h2⟩
    rcases h1 with h1 | ⟨L, q1, q2, q3, q4⟩
    · exact .inl h1
    · exact .inr ⟨L, q1, q2, q4.lt, q3, q4⟩
  · rintro e w' ⟨A', n, c', w0, w1, rfl, ⟨rfl, h1⟩, h2, h3, h4, h5⟩
    refine ⟨A', c', by rw [vs_set], ?_, h5⟩
    rcases h1 with h1 | ⟨L, q1, q2, q3, q4, q5⟩
    · exact .inl h1
    · exact .inr ⟨L, q1, by omega, q4, q5.kept h4 (fun h => by omega)⟩
theorem lendMessage_any (m : Msg) (A : Option Addr) (c : Nat) (hl : m.list.length + 2 < 4398046511104) (hc : m.list.length ≤ c) (w : World) (h : EntsR w A m.list) :
    Calls Try.prog 8 #[.agg (m.vs (.slice A m.list.length c)).toArray] w (MLendPost w m) := by
  refine (lendM_raw _ rfl (m.one _ _ _) (.slice A m.list.length c) rfl w (fun w0 A n c w' => n = m.list.length ∧ ∃ L, A = some ⟨L, 0, none⟩ ∧ w0.heap.size ≤ L ∧ m.list.length + 2 ≤ c ∧ EntsB w' L (m.list ++ [room, room])) ?_).mono ?_
  · intro w0 hb
    refine (lendEntries_any A c m.list hl hc w0 (h.below hb)).mono ?_
    rintro e w' ⟨L, c', rfl, h1, h2, h3, h4⟩
    exact ⟨_, _, c', rfl, ⟨rfl, L, rfl, h1, h2, h3⟩, h4⟩
  · rintro e w' ⟨A', n, c', w0, w1, rfl, ⟨rfl, L, rfl, q2, q3, q4⟩, h2, h3, h4, h5⟩
    exact ⟨L, c', by rw [vs_set], by omega, q3, q4.kept h4 (fun h => by omega), h5⟩

set_option maxHeartbeats 4000000 in
set_option maxRecDepth 100000 in
theorem kept_raw (m : Msg) (L : Nat) (A2 : Option Addr) (c1 c2 : Nat) (x y : List Value) (hx : MsgAt x m (some ⟨L, 0, none⟩) c1) (hy : MsgAt y m A2 c2) (hl : m.list.length ≤ 4398046511104) (hc : m.list.length + 2 ≤ c1) (w : World) (h1 : EntsR w (some ⟨L, 0, none⟩) (m.list ++ [room, room])) (h2 : EntsR w A2 m.list) :
    Calls Try.prog 12 #[.agg x.toArray, .agg y.toArray] w fun e w' => e = .returned (.bool true) ∧ Below w.heap.size w w' := by
  have H1 := Lib.hid h1; have H2 := Lib.hid h2; have Hsz := Lib.hid infoMsg
  have Hl := Lib.hid hl; have HX := Lib.hid hx; have HY := Lib.hid hy; have Hc := Lib.hid hc
  clear h1 h2 hl hx hy hc
  go_enter Try.func12, Try.ntmps12
  go_wp2_with (first
    | ((with_reducible refine gate_dst (N := 2) rfl ?_); refine box_event rfl (N := 2) rfl (run_box _ _ _ 36 _ x.toArray rfl rfl _) ?_; intro gx hgx v1 hbox hbel; have BX0 := Lib.hid (show Blk v1 gx 36 x from hbox); have BL0 := Lib.hid hbel; clear hbox hbel hgx)
    | ((with_reducible refine gate_dst (N := 3) rfl ?_); refine box_event rfl (N := 3) rfl (run_box _ _ _ 36 _ y.toArray rfl rfl _) ?_; intro gy hgy v2 hbox hbel; have BY := Lib.hid (show Blk v2 gy 36 y from hbox); have BX := Lib.hid (BX0.out.below hbel); have BL := Lib.hid (BL0.out.trans (hbel.mono BL0.out.size)); clear hbox hbel hgy BX0 BL0)
    | ((with_reducible refine gate_dst (N := 5) rfl ?_); refine wpList_load_mid rfl 36 _ rfl gx 0 rfl x _ ?hc Try.underlying36 rfl ?hi ?_; (case hc => exact BX.out.range); (case hi => rw [HX.out.len]; exact Hsz.out))
    | ((with_reducible refine gate_dst (N := 6) rfl ?_); refine wpList_load_mid rfl 36 _ rfl gy 0 rfl y _ ?hc Try.underlying36 rfl ?hi ?_; (case hc => exact BY.out.range); (case hi => rw [HY.out.len]; exact Hsz.out)))
  refine (same_raw m (some ⟨L, 0, none⟩) A2 c1 c2 x y HX.out HY.out Hl.out v2 (H1.out.take.below BL.out) (H2.out.below BL.out)).mono ?_
  rintro e w3 ⟨rfl, hb⟩
  have KB := Lib.hid (BL.out.trans (hb.mono BL.out.size))
  have x29 := (BX.out.below hb).cell 29 (HX.out.ans 12 _ rfl)
  have y29 := (BY.out.below hb).cell 29 (HY.out.ans 12 _ rfl)
  clear hb BX BY BL
  go_wp2_with fail
  refine (keptEntries_eq L A2 c1 c2 m.list Hl.out Hc.out w3 (H1.out.below KB.out) (H2.out.below KB.out)).mono ?_
  rintro e w4 ⟨rfl, d, rfl⟩
  go_wp2_with fail
  go_ret
  exact ⟨rfl, below_drewN KB.out _⟩

end Go.Proofs.Ytibcadfpengacaa

-- PEncodex0
namespace Go.Proofs.Ytibcadfpengacaa.PEncode
open Go.RowKit Go.Proofs.YtibcadfpengacaaW.PrintWords Go.Proofs.YtibcadfpengacaaW.PrintLast Go.Proofs.YtibcadfpengacaaW.PrintMore
attribute [local go_sem] max2_int min2_int max_two min_two max_three min_three max_four min_four   -- for this text's walks alone
set_option linter.unusedVariables false
set_option linter.unusedSimpArgs false



def errW : Option Int → Value
  | none => .nilIface
  | some c => .iface 0 (.int .i64 c)
theorem errW_none : errW none = .nilIface := rfl
theorem errW_some (c : Int) : errW (some c) = .iface 0 (.int .i64 c) := rfl

theorem info5 : (Try.prog.info? 5).map (fun i => (i.zero, i.size, i.bytes)) = some (some (.int .u8 0), 1, 1) := by kernel_rfl
-- the values' own types

end Go.Proofs.Ytibcadfpengacaa.PEncode

-- RefLe
namespace Go.Proofs.Ytibcadfpengacaa.PEncode
open Go.RowKit Go.Proofs.YtibcadfpengacaaW.PrintWords Go.Proofs.YtibcadfpengacaaW.PrintLast Go.Proofs.YtibcadfpengacaaW.PrintMore
attribute [local go_sem] max2_int min2_int max_two min_two max_three min_three max_four min_four   -- for this text's walks alone
set_option linter.unusedVariables false
set_option linter.unusedSimpArgs false

/-! ### holtref1_Le: function 66 -/
mutual
def holtref1_Le.j0 : Nat → Int → Int → Bool → Option (ByteArray × Int)
  | 0, _, _, _ => none
  | k + 1, x0, x1, x13 => if x13 = true then (some ((⟨#[]⟩ : ByteArray), 100)) else (holtref1_Le.l0 k x0 x1 ([] : List Int) 0)
def holtref1_Le.l0 : Nat → Int → Int → List Int → Int → Option (ByteArray × Int)
  | 0, _, _, _, _ => none
  | k + 1, x0, x1, x6, x7 => if x7 < x1 then (if x6.length < 140737488355328 then (holtref1_Le.l0 k (IntKind.u64.wrap (Int.tdiv x0 256)) x1 (x6 ++ [(Int.tmod x0 256) % 256]) (wrap64 (x7 + 1))) else (none)) else (if x0 = 0 then (some (strOfNums x6, 0)) else (some ((⟨#[]⟩ : ByteArray), 100)))
end
def holtref1_Le.f (k : Nat) (a0 : Int) (a1 : Int) : Option (ByteArray × Int) := if a1 < 1 then (holtref1_Le.j0 k a0 a1 true) else (holtref1_Le.j0 k a0 a1 (decide (a1 > 8)))
theorem holtref1_Le.mono_l : ∀ k, (∀ y0 y1 y2, LeO (holtref1_Le.j0 k y0 y1 y2) (holtref1_Le.j0 (k + 1) y0 y1 y2)) ∧ (∀ y0 y1 y2 y3, LeO (holtref1_Le.l0 k y0 y1 y2 y3) (holtref1_Le.l0 (k + 1) y0 y1 y2 y3))
  | 0 => ⟨fun _ _ _ r h => by simp [holtref1_Le.j0] at h, fun _ _ _ _ r h => by simp [holtref1_Le.l0] at h⟩
  | k + 1 => by
    obtain ⟨ih0, ih1⟩ := holtref1_Le.mono_l k
    refine ⟨?_, ?_⟩
    · intro y0 y1 y2
      unfold holtref1_Le.j0
      repeat' first
      | (with_reducible exact ih0 _ _ _)
      | (with_reducible exact ih1 _ _ _ _)
      | (with_reducible exact LeO.refl _)
      | (with_reducible exact LeO.none _)
      | (with_reducible refine LeO.ite ?_ ?_)
      | (with_reducible refine LeO.bind ?_ (fun _ => ?_))
      | exact ih0 _ _ _
      | exact ih1 _ _ _ _
      | exact LeO.none _
      | refine LeO.ite ?_ ?_
      | refine LeO.bind ?_ (fun _ => ?_)
    · intro y0 y1 y2 y3
      unfold holtref1_Le.l0
      repeat' first
      | (with_reducible exact ih0 _ _ _)
      | (with_reducible exact ih1 _ _ _ _)
      | (with_reducible exact LeO.refl _)
      | (with_reducible exact LeO.none _)
      | (with_reducible refine LeO.ite ?_ ?_)
      | (with_reducible refine LeO.bind ?_ (fun _ => ?_))
      | exact ih0 _ _ _
      | exact ih1 _ _ _ _
      | exact LeO.none _
      | refine LeO.ite ?_ ?_
      | refine LeO.bind ?_ (fun _ => ?_)
theorem holtref1_Le.mono : ∀ a0 a1 k, LeO (holtref1_Le.f k a0 a1) (holtref1_Le.f (k + 1) a0 a1) := by
  intro a0 a1 k
  obtain ⟨ih0, ih1⟩ := holtref1_Le.mono_l k
  unfold holtref1_Le.f
  repeat' first
      | (with_reducible exact ih0 _ _ _)
      | (with_reducible exact ih1 _ _ _ _)
      | (with_reducible exact LeO.refl _)
      | (with_reducible exact LeO.none _)
      | (with_reducible refine LeO.ite ?_ ?_)
      | (with_reducible refine LeO.bind ?_ (fun _ => ?_))
      | exact ih0 _ _ _
      | exact ih1 _ _ _ _
      | exact LeO.none _
      | refine LeO.ite ?_ ?_
      | refine LeO.bind ?_ (fun _ => ?_)
set_option maxHeartbeats 8000000 in
set_option maxRecDepth 100000 in
theorem holtref1_Le.calls (k : Nat) (a0 : Int) (a1 : Int) (r1 : ByteArray) (r2 : Int) (w : World) (h : holtref1_Le.f k a0 a1 = some (r1, r2)) :
    Calls Try.prog 66 #[.int .u64 a0, .int .i64 a1] w fun e w' => e = .returned (.tuple #[.string r1, .int .i64 r2]) ∧ Below w.heap.size w w' := by
  have HB := Aside0.mk (Below.refl w.heap.size w)
  have H : (if a1 < 1 then (holtref1_Le.j0 k a0 a1 true) else (holtref1_Le.j0 k a0 a1 (decide (a1 > 8)))) = some (r1, r2) := h
  clear h
  have HC3 := Aside0.mk H
  clear H
  go_enter Try.func66, Try.ntmps66
  go_upto_region 1 with (fail)
  go_cut [13] (fun v13 wc => ∃ (kq : Nat) (x13_2 : Bool), v13 = .bool x13_2 ∧ Aside0 (holtref1_Le.j0 kq a0 a1 x13_2 = some (r1, r2)) ∧ Aside0 (kq ≤ k) ∧ Aside0 (Below w.heap.size w wc))
  case first =>
    have H := HC3.out
    clear HC3
    by_cases c4 : a1 < 1
    · rw [if_pos c4] at H
      have c4b0 : decide (a1 < 1) = true := decide_eq_true c4
      clear c4
      (first | rw [c4b0] | (simp only [i64_w, i32_w]; rw [c4b0]) | skip)
      have H' := Aside0.mk H
      clear H
      go_wp2
      go_meet
      case rel => exact ⟨_, (true), (by first | rfl | (simp; done) | (simp [*]; done)), H', ⟨by first | omega | exact Nat.le_refl _⟩, ⟨by repeat (first | (with_reducible first | exact HB.out | apply below_alloc | apply pw_below_drewN | apply below_drew1) | exact HB.out)⟩⟩
    · rw [if_neg c4] at H
      have c4b0 : decide (a1 < 1) = false := decide_eq_false c4
      clear c4
      (first | rw [c4b0] | (simp only [i64_w, i32_w]; rw [c4b0]) | skip)
      have H' := Aside0.mk H
      clear H
      go_wp2
      go_meet
      case rel => exact ⟨_, (decide (a1 > 8)), (by first | rfl | (simp; done) | (simp [*]; done)), H', ⟨by first | omega | exact Nat.le_refl _⟩, ⟨by repeat (first | (with_reducible first | exact HB.out | apply below_alloc | apply pw_below_drewN | apply below_drew1) | exact HB.out)⟩⟩
  case rest =>
    clear HC3
    try clear p2
    try clear c4
    try clear c4b0
    obtain ⟨kq, x13_2, rfl, HA, HJ2, HB⟩ := hcut
    cases kq with
    | zero => exact absurd HA.out (by simp [holtref1_Le.j0])
    | succ kj2 =>
      have H := HA.out
      clear HA
      simp only [holtref1_Le.j0] at H
      by_cases c5 : x13_2 = true
      · subst c5
        have H1 : (some ((⟨#[]⟩ : ByteArray), 100)) = some (r1, r2) := by rw [if_pos rfl] at H; exact H
        clear H
        have H := H1
        clear H1
        simp only [Option.some.injEq, Prod.mk.injEq] at H
        obtain ⟨rfl, rfl⟩ := H
        go_wp2
        go_ret2
        exact ⟨by first | rfl | (simp [errW_none, errW_some] <;> rfl) | (simp [*, errW_none, errW_some] <;> rfl), by repeat (first | (with_reducible first | exact HB.out | apply below_alloc | apply pw_below_drewN | apply below_drew1) | exact HB.out)⟩
      · replace c5 := Bool.eq_false_iff.mpr c5
        subst c5
        have H1 : (holtref1_Le.l0 kj2 a0 a1 ([] : List Int) 0) = some (r1, r2) := by rw [if_neg (show ¬ (false = true) by decide)] at H; exact H
        clear H
        have H := H1
        clear H1
        have H' := Aside0.mk H
        clear H
        go_wp2
        go_loopg [0, 6, 7] kj2 (fun kq v0 v6 v7 w' => ∃ (x0_2 : Int) (x6_2 : List Int) (x7_2 : Int), v0 = .int .u64 x0_2 ∧ v7 = .int .i64 x7_2 ∧ Aside0 (holtref1_Le.l0 kq x0_2 a1 x6_2 x7_2 = some (r1, r2)) ∧ Aside0 (kq ≤ kj2) ∧ Aside0 (Kd.R (Kd.int .u8) 5 w' w.heap.size (fun _ => True) v6 x6_2) ∧ Aside0 (Below w.heap.size w w'))
        case atStart => exact ⟨(a0), (([] : List Int)), (0), (by first | rfl | (simp; done) | (simp [*]; done)), (by first | rfl | (simp; done) | (simp [*]; done)), H', ⟨Nat.le_refl _⟩, ⟨by first | exact Kd.R_nil _ _ _ _ _ | exact Kd.N_nil _ _ _ _ _ | exact Kd.V_nil _ _ _ _ _ | exact Kd.Q_nil _ _ _ _ _ | exact Kd.S_nil _ _ _ _ _⟩, ⟨by repeat (first | (with_reducible first | exact HB.out | apply below_alloc | apply pw_below_drewN | apply below_drew1) | exact HB.out)⟩⟩
        case round =>
          clear H'
          try clear p2
          try clear c4
          try clear c4b0
          try clear c5
          try clear p2
          obtain ⟨x0_2, x6_2, x7_2, rfl, rfl, HA, HK2, HO_6, HB⟩ := hrel
          cases gk with
          | zero => exact absurd HA.out (by simp [holtref1_Le.l0])
          | succ k2 =>
            have H := HA.out
            clear HA
            simp only [holtref1_Le.l0] at H
            by_cases c6 : x7_2 < a1
            · rw [if_pos c6] at H
              have c6b0 : decide (x7_2 < a1) = true := decide_eq_true c6
              clear c6
              by_cases c7 : x6_2.length < 140737488355328
              · rw [if_pos c7] at H
                have LMc7 := Aside0.mk c7
                clear c7
                obtain ⟨y101, hy101⟩ : ∃ y_ : List Int, y_ = (x6_2 ++ [(Int.tmod x0_2 256) % 256]) := ⟨_, rfl⟩
                replace H : (holtref1_Le.l0 k2 (IntKind.u64.wrap (Int.tdiv x0_2 256)) a1 y101 (wrap64 (x7_2 + 1))) = some (r1, r2) := by first | (rw [hy101]; with_reducible exact H) | (have H2_ := (Option.bind_some _ _).symm.trans H; rw [hy101]; with_reducible exact H2_) | (have H2_ := (Option.bind_some _ _).symm.trans H; with_reducible exact H2_) | with_reducible exact H | (rw [hy101]; exact H) | exact H
                have Ny101 := Aside0.mk hy101
                clear hy101
                have H' := Aside0.mk H
                clear H
                go_wp2_with (first | ((with_reducible refine gate_builtin (b := .append) (xs := #[.tmp 19, .tmp 23]) rfl ?_); at_builtin; refine Kd.R_append (Kd.int .u8) (w0 := w) w.heap.size rfl (.tmp 19) (.tmp 23) 79 5 (.int .u8 0) 1 rfl Try.underlying79 info5 rfl (by decide) (by omega) u6 x6_2 ((Int.tmod x0_2 256) % 256) [.int .u8 ((Int.tmod x0_2 256) % 256)] (fun _ => True) (fun _ => False) rfl rfl ?aP (fun _ hk => hk.elim) ?aF ?aO ?aB ?aS ?aL ?_; (case aP => exact rfl); (case aB => exact (by repeat (first | (with_reducible first | exact HB.out | apply below_alloc | apply pw_below_drewN | apply below_drew1) | exact HB.out))); (case aF => exact (fun _ _ => trivial)); (case aO => exact (by (with_reducible repeat (first | apply Kd.R_alloc | apply Kd.R_drewN | apply Kd.R_drew)); exact HO_6.out)); (case aS => exact (below_size (by repeat (first | (with_reducible first | exact HB.out | apply below_alloc | apply pw_below_drewN | apply below_drew1) | exact HB.out)))); (case aL => have := LMc7.out; omega); intro v102 w8 ho hb hg hat; rw [← Ny101.out] at ho; have n0_ := Aside0.mk (hb); have n1_ := Aside0.mk (ho); clear HB; clear HO_6; have HB := n0_; have HO103 := n1_; clear n0_ n1_; clear ho hb hg hat))
                go_roundg k2
                case measure => have := HJ2.out; have := HK2.out; omega
                case rel => exact ⟨(IntKind.u64.wrap (Int.tdiv x0_2 256)), (y101), (wrap64 (x7_2 + 1)), (by first | rfl | (simp; done) | (simp [*]; done)), (by first | rfl | (simp; done) | (simp [*]; done)), H', ⟨by have := HJ2.out; have := HK2.out; omega⟩, ⟨by (with_reducible repeat (first | apply Kd.R_alloc | apply Kd.R_drewN | apply Kd.R_drew)); exact HO103.out⟩, ⟨by repeat (first | (with_reducible first | exact HB.out | apply below_alloc | apply pw_below_drewN | apply below_drew1) | exact HB.out)⟩⟩
              · rw [if_neg c7] at H
                exact absurd H (by simp)
            · rw [if_neg c6] at H
              have c6b0 : decide (x7_2 < a1) = false := decide_eq_false c6
              clear c6
              by_cases c9 : x0_2 = 0
              · rw [if_pos c9] at H
                have c9b0 : (x0_2 == 0) = true := beq_iff_eq.mpr c9
                have c9b1 : (x0_2 != 0) = false := bne_eq_false_iff_eq.mpr c9
                clear c9
                simp only [Option.some.injEq, Prod.mk.injEq] at H
                obtain ⟨rfl, rfl⟩ := H
                have hcv10 := own_string (P := Try.prog) Try.underlying79 Try.underlying5 Try.underlying9 (Kd.own_of_R HO_6.out)
                go_wp2
                go_ret2
                exact ⟨by first | rfl | (simp [errW_none, errW_some] <;> rfl) | (simp [*, errW_none, errW_some] <;> rfl), by repeat (first | (with_reducible first | exact HB.out | apply below_alloc | apply pw_below_drewN | apply below_drew1) | exact HB.out)⟩
              · rw [if_neg c9] at H
                have c9b0 : (x0_2 == 0) = false := beq_eq_false_iff_ne.mpr c9
                have c9b1 : (x0_2 != 0) = true := bne_iff_ne.mpr c9
                simp only [Option.some.injEq, Prod.mk.injEq] at H
                obtain ⟨rfl, rfl⟩ := H
                go_wp2
                go_ret2
                exact ⟨by first | rfl | (simp [errW_none, errW_some] <;> rfl) | (simp [*, errW_none, errW_some] <;> rfl), by repeat (first | (with_reducible first | exact HB.out | apply below_alloc | apply pw_below_drewN | apply below_drew1) | exact HB.out)⟩

/-! ### holtref1_L4: function 56 -/
def holtref1_L4.f (k : Nat) (a0 : Int) : Option (ByteArray) := (holtref1_Le.f k (IntKind.u64.wrap (a0)) 4).bind fun bt104 => (some bt104.1)
theorem holtref1_L4.mono : ∀ a0 k, LeO (holtref1_L4.f k a0) (holtref1_L4.f (k + 1) a0) := by
  intro a0 k
  unfold holtref1_L4.f
  repeat' first
      | (with_reducible exact holtref1_Le.mono _ _ _)
      | (with_reducible exact LeO.refl _)
      | (with_reducible exact LeO.none _)
      | (with_reducible refine LeO.ite ?_ ?_)
      | (with_reducible refine LeO.bind ?_ (fun _ => ?_))
      | exact holtref1_Le.mono _ _ _
      | exact LeO.none _
      | refine LeO.ite ?_ ?_
      | refine LeO.bind ?_ (fun _ => ?_)
set_option maxHeartbeats 8000000 in
set_option maxRecDepth 100000 in
theorem holtref1_L4.calls (k : Nat) (a0 : Int) (r : ByteArray) (w : World) (h : holtref1_L4.f k a0 = some r) :
    Calls Try.prog 56 #[.int .u32 a0] w fun e w' => e = .returned (.string r) ∧ Below w.heap.size w w' := by
  have HB := Aside0.mk (Below.refl w.heap.size w)
  have H : ((holtref1_Le.f k (IntKind.u64.wrap (a0)) 4).bind fun bt104 => (some bt104.1)) = some r := h
  clear h
  replace H := Option.bind_eq_some_iff.mp H
  obtain ⟨⟨t104, t105⟩, A20, H⟩ := H
  replace H : (some t104) = some r := H
  have A2 := Aside0.mk A20
  clear A20
  obtain rfl := Option.some.inj H
  go_enter Try.func56, Try.ntmps56
  go_wp2_with (first | ((with_reducible refine gate_callee (f := 66) rfl ?_); refine goesL_ (some 8) rfl rfl Try.func66 (by kernel_rfl) rfl #[.int .u64 (IntKind.u64.wrap (a0)), .int .i64 4] rfl (by (try simp only [List.map_toArray, List.map_cons, List.map_nil]); first | done | rfl | (simp only [List.length_drop, List.length_take]; rfl)) ?_; (with_reducible refine (holtref1_Le.calls k (IntKind.u64.wrap (a0)) 4 t104 t105 _ A2.out).mono ?_); rintro e w3 ⟨rfl, hb⟩; refine ⟨_, rfl, ?_⟩; have n0_ := Aside0.mk (below_step (by repeat (first | (with_reducible first | exact HB.out | apply below_alloc | apply pw_below_drewN | apply below_drew1) | exact HB.out)) hb); clear HB; have HB := n0_; clear n0_; (try clear hb); (try clear hb2); (try clear hk); (try clear hi)))
  go_ret
  exact ⟨by first | rfl | (simp [errW_none, errW_some] <;> rfl) | (simp [*, errW_none, errW_some] <;> rfl), by repeat (first | (with_reducible first | exact HB.out | apply below_alloc | apply pw_below_drewN | apply below_drew1) | exact HB.out)⟩

/-! ### holtref1_L8: function 57 -/
def holtref1_L8.f (k : Nat) (a0 : Int) : Option (ByteArray) := (holtref1_Le.f k a0 8).bind fun bt106 => (some bt106.1)
theorem holtref1_L8.mono : ∀ a0 k, LeO (holtref1_L8.f k a0) (holtref1_L8.f (k + 1) a0) := by
  intro a0 k
  unfold holtref1_L8.f
  repeat' first
      | (with_reducible exact holtref1_Le.mono _ _ _)
      | (with_reducible exact LeO.refl _)
      | (with_reducible exact LeO.none _)
      | (with_reducible refine LeO.ite ?_ ?_)
      | (with_reducible refine LeO.bind ?_ (fun _ => ?_))
      | exact holtref1_Le.mono _ _ _
      | exact LeO.none _
      | refine LeO.ite ?_ ?_
      | refine LeO.bind ?_ (fun _ => ?_)
set_option maxHeartbeats 8000000 in
set_option maxRecDepth 100000 in
theorem holtref1_L8.calls (k : Nat) (a0 : Int) (r : ByteArray) (w : World) (h : holtref1_L8.f k a0 = some r) :
    Calls Try.prog 57 #[.int .u64 a0] w fun e w' => e = .returned (.string r) ∧ Below w.heap.size w w' := by
  have HB := Aside0.mk (Below.refl w.heap.size w)
  have H : ((holtref1_Le.f k a0 8).bind fun bt106 => (some bt106.1)) = some r := h
  clear h
  replace H := Option.bind_eq_some_iff.mp H
  obtain ⟨⟨t106, t107⟩, A20, H⟩ := H
  replace H : (some t106) = some r := H
  have A2 := Aside0.mk A20
  clear A20
  obtain rfl := Option.some.inj H
  go_enter Try.func57, Try.ntmps57
  go_wp2_with (first | ((with_reducible refine gate_callee (f := 66) rfl ?_); refine goesL_ (some 7) rfl rfl Try.func66 (by kernel_rfl) rfl #[.int .u64 a0, .int .i64 8] rfl (by (try simp only [List.map_toArray, List.map_cons, List.map_nil]); first | done | rfl | (simp only [List.length_drop, List.length_take]; rfl)) ?_; (with_reducible refine (holtref1_Le.calls k a0 8 t106 t107 _ A2.out).mono ?_); rintro e w3 ⟨rfl, hb⟩; refine ⟨_, rfl, ?_⟩; have n0_ := Aside0.mk (below_step (by repeat (first | (with_reducible first | exact HB.out | apply below_alloc | apply pw_below_drewN | apply below_drew1) | exact HB.out)) hb); clear HB; have HB := n0_; clear n0_; (try clear hb); (try clear hb2); (try clear hk); (try clear hi)))
  go_ret
  exact ⟨by first | rfl | (simp [errW_none, errW_some] <;> rfl) | (simp [*, errW_none, errW_some] <;> rfl), by repeat (first | (with_reducible first | exact HB.out | apply below_alloc | apply pw_below_drewN | apply below_drew1) | exact HB.out)⟩

end Go.Proofs.Ytibcadfpengacaa.PEncode

-- PDecodex0
namespace Go.Proofs.Ytibcadfpengacaa.PDecode
open Go.RowKit Go.Proofs.YtibcadfpengacaaW.PrintWords Go.Proofs.YtibcadfpengacaaW.PrintLast Go.Proofs.YtibcadfpengacaaW.PrintMore
attribute [local go_sem] max2_int min2_int max_two min_two max_three min_three max_four min_four   -- for this text's walks alone
set_option linter.unusedVariables false
set_option linter.unusedSimpArgs false



def errW : Option Int → Value
  | none => .nilIface
  | some c => .iface 0 (.int .i64 c)
theorem errW_none : errW none = .nilIface := rfl
theorem errW_some (c : Int) : errW (some c) = .iface 0 (.int .i64 c) := rfl

theorem info5 : (Try.prog.info? 5).map (fun i => (i.zero, i.size, i.bytes)) = some (some (.int .u8 0), 1, 1) := by kernel_rfl
-- the values' own types

end Go.Proofs.Ytibcadfpengacaa.PDecode

-- PDecodex1
namespace Go.Proofs.Ytibcadfpengacaa.PDecode
open Go.RowKit Go.Proofs.YtibcadfpengacaaW.PrintWords Go.Proofs.YtibcadfpengacaaW.PrintLast Go.Proofs.YtibcadfpengacaaW.PrintMore
attribute [local go_sem] max2_int min2_int max_two min_two max_three min_three max_four min_four   -- for this text's walks alone
set_option linter.unusedVariables false
set_option linter.unusedSimpArgs false

/-! ### holtref1_OfBe: function 67 -/
mutual
def holtref1_OfBe.j0 : Nat → ByteArray → Bool → Option (Int × Int)
  | 0, _, _ => none
  | k + 1, x0, x13 => if x13 = true then (some (0, 100)) else (holtref1_OfBe.l0 k x0 0 0)
def holtref1_OfBe.l0 : Nat → ByteArray → Int → Int → Option (Int × Int)
  | 0, _, _, _ => none
  | k + 1, x0, x4, x5 => if x5 < (x0.size : Int) then (if 0 ≤ x5 then (holtref1_OfBe.l0 k x0 (IntKind.u64.wrap ((IntKind.u64.wrap (x4 * 256)) + (IntKind.u64.wrap (bt x0 x5)))) (wrap64 (x5 + 1))) else (none)) else (some (x4, 0))
end
def holtref1_OfBe.f (k : Nat) (a0 : ByteArray) : Option (Int × Int) := if (a0.size : Int) < 1 then (holtref1_OfBe.j0 k a0 true) else (holtref1_OfBe.j0 k a0 (decide ((a0.size : Int) > 8)))
theorem holtref1_OfBe.mono_l : ∀ k, (∀ y0 y1, LeO (holtref1_OfBe.j0 k y0 y1) (holtref1_OfBe.j0 (k + 1) y0 y1)) ∧ (∀ y0 y1 y2, LeO (holtref1_OfBe.l0 k y0 y1 y2) (holtref1_OfBe.l0 (k + 1) y0 y1 y2))
  | 0 => ⟨fun _ _ r h => by simp [holtref1_OfBe.j0] at h, fun _ _ _ r h => by simp [holtref1_OfBe.l0] at h⟩
  | k + 1 => by
    obtain ⟨ih0, ih1⟩ := holtref1_OfBe.mono_l k
    refine ⟨?_, ?_⟩
    · intro y0 y1
      unfold holtref1_OfBe.j0
      repeat' first
      | (with_reducible exact ih0 _ _)
      | (with_reducible exact ih1 _ _ _)
      | (with_reducible exact LeO.refl _)
      | (with_reducible exact LeO.none _)
      | (with_reducible refine LeO.ite ?_ ?_)
      | (with_reducible refine LeO.bind ?_ (fun _ => ?_))
      | exact ih0 _ _
      | exact ih1 _ _ _
      | exact LeO.none _
      | refine LeO.ite ?_ ?_
      | refine LeO.bind ?_ (fun _ => ?_)
    · intro y0 y1 y2
      unfold holtref1_OfBe.l0
      repeat' first
      | (with_reducible exact ih0 _ _)
      | (with_reducible exact ih1 _ _ _)
      | (with_reducible exact LeO.refl _)
      | (with_reducible exact LeO.none _)
      | (with_reducible refine LeO.ite ?_ ?_)
      | (with_reducible refine LeO.bind ?_ (fun _ => ?_))
      | exact ih0 _ _
      | exact ih1 _ _ _
      | exact LeO.none _
      | refine LeO.ite ?_ ?_
      | refine LeO.bind ?_ (fun _ => ?_)
theorem holtref1_OfBe.mono : ∀ a0 k, LeO (holtref1_OfBe.f k a0) (holtref1_OfBe.f (k + 1) a0) := by
  intro a0 k
  obtain ⟨ih0, ih1⟩ := holtref1_OfBe.mono_l k
  unfold holtref1_OfBe.f
  repeat' first
      | (with_reducible exact ih0 _ _)
      | (with_reducible exact ih1 _ _ _)
      | (with_reducible exact LeO.refl _)
      | (with_reducible exact LeO.none _)
      | (with_reducible refine LeO.ite ?_ ?_)
      | (with_reducible refine LeO.bind ?_ (fun _ => ?_))
      | exact ih0 _ _
      | exact ih1 _ _ _
      | exact LeO.none _
      | refine LeO.ite ?_ ?_
      | refine LeO.bind ?_ (fun _ => ?_)
set_option maxHeartbeats 8000000 in
set_option maxRecDepth 100000 in
theorem holtref1_OfBe.calls (k : Nat) (a0 : ByteArray) (r1 : Int) (r2 : Int) (w : World) (h : holtref1_OfBe.f k a0 = some (r1, r2)) :
    Calls Try.prog 67 #[.string a0] w fun e w' => e = .returned (.tuple #[.int .u64 r1, .int .i64 r2]) ∧ Drawn0 w w' := by
  have H : (if (a0.size : Int) < 1 then (holtref1_OfBe.j0 k a0 true) else (holtref1_OfBe.j0 k a0 (decide ((a0.size : Int) > 8)))) = some (r1, r2) := h
  clear h
  have HC2 := Aside0.mk H
  clear H
  go_enter Try.func67, Try.ntmps67
  go_upto_region 1 with (fail)
  go_cut [13] (fun v13 wc => ∃ (kq : Nat) (x13_1 : Bool), v13 = .bool x13_1 ∧ Aside0 (holtref1_OfBe.j0 kq a0 x13_1 = some (r1, r2)) ∧ Aside0 (kq ≤ k) ∧ Drawn0 w wc)
  case first =>
    have H := HC2.out
    clear HC2
    by_cases c3 : (a0.size : Int) < 1
    · rw [if_pos c3] at H
      have c3b0 : decide ((a0.size : Int) < 1) = true := decide_eq_true c3
      have c3b1 : decide (a0.size < 1) = true := decide_eq_true (by omega)
      clear c3
      (first | rw [c3b0] | (simp only [i64_w, i32_w]; rw [c3b0]) | skip)
      have H' := Aside0.mk H
      clear H
      go_wp2
      go_meet
      case rel => exact ⟨_, (true), (by first | rfl | (simp; done) | (simp [*]; done)), H', ⟨by first | omega | exact Nat.le_refl _⟩, by repeat (first | exact Drawn0.refl _ | apply Drawn0.step)⟩
    · rw [if_neg c3] at H
      have c3b0 : decide ((a0.size : Int) < 1) = false := decide_eq_false c3
      have c3b1 : decide (a0.size < 1) = false := decide_eq_false (by omega)
      clear c3
      (first | rw [c3b0] | (simp only [i64_w, i32_w]; rw [c3b0]) | skip)
      have H' := Aside0.mk H
      clear H
      go_wp2
      go_meet
      case rel => exact ⟨_, (decide ((a0.size : Int) > 8)), (by first | rfl | (simp; done) | (simp [*]; done)), H', ⟨by first | omega | exact Nat.le_refl _⟩, by repeat (first | exact Drawn0.refl _ | apply Drawn0.step)⟩
  case rest =>
    clear HC2
    try clear p2
    try clear c3
    try clear c3b0
    try clear c3b1
    obtain ⟨kq, x13_1, rfl, HA, HJ1, ⟨mc1, rfl⟩⟩ := hcut
    cases kq with
    | zero => exact absurd HA.out (by simp [holtref1_OfBe.j0])
    | succ kj1 =>
      have H := HA.out
      clear HA
      simp only [holtref1_OfBe.j0] at H
      by_cases c4 : x13_1 = true
      · subst c4
        have H1 : (some (0, 100)) = some (r1, r2) := by rw [if_pos rfl] at H; exact H
        clear H
        have H := H1
        clear H1
        simp only [Option.some.injEq, Prod.mk.injEq] at H
        obtain ⟨rfl, rfl⟩ := H
        go_wp2
        go_ret2
        exact ⟨by first | rfl | (simp; done) | (simp [*]; done), by repeat (first | exact Drawn0.refl _ | apply Drawn0.step)⟩
      · replace c4 := Bool.eq_false_iff.mpr c4
        subst c4
        have H1 : (holtref1_OfBe.l0 kj1 a0 0 0) = some (r1, r2) := by rw [if_neg (show ¬ (false = true) by decide)] at H; exact H
        clear H
        have H := H1
        clear H1
        have H' := Aside0.mk H
        clear H
        go_wp2
        go_loopg [4, 5] kj1 (fun kq v4 v5 w' => ∃ (x4_2 : Int) (x5_2 : Int), v4 = .int .u64 x4_2 ∧ v5 = .int .i64 x5_2 ∧ Aside0 (holtref1_OfBe.l0 kq a0 x4_2 x5_2 = some (r1, r2)) ∧ Aside0 (kq ≤ kj1) ∧ Drawn0 w w')
        case atStart => exact ⟨(0), (0), (by first | rfl | (simp; done) | (simp [*]; done)), (by first | rfl | (simp; done) | (simp [*]; done)), H', ⟨Nat.le_refl _⟩, by repeat (first | exact Drawn0.refl _ | apply Drawn0.step)⟩
        case round =>
          clear H'
          try clear c1
          try clear p2
          try clear c3
          try clear c3b0
          try clear c3b1
          try clear c4
          try clear p2
          obtain ⟨x4_2, x5_2, rfl, rfl, HA, HK2, ⟨m2, rfl⟩⟩ := hrel
          cases gk with
          | zero => exact absurd HA.out (by simp [holtref1_OfBe.l0])
          | succ k2 =>
            have H := HA.out
            clear HA
            simp only [holtref1_OfBe.l0] at H
            by_cases c5 : x5_2 < (a0.size : Int)
            · rw [if_pos c5] at H
              have c5b0 : decide (x5_2 < (a0.size : Int)) = true := decide_eq_true c5
              clear c5
              by_cases c6 : 0 ≤ x5_2
              · rw [if_pos c6] at H
                have c6b0 : decide (0 ≤ x5_2) = true := decide_eq_true c6
                clear c6
                have H' := Aside0.mk H
                clear H
                have p7 : 0 ≤ (x5_2 : Int) := of_decide_eq_true (by first | (with_reducible assumption) | assumption)
                have q7 : x5_2 < (a0.size : Int) := of_decide_eq_true (by first | (with_reducible assumption) | assumption)
                have hx7 := bt_at a0 x5_2
                replace p7 := eq_true p7
                replace q7 := eq_true q7
                go_wp2
                go_roundg k2
                case measure => have := HJ1.out; have := HK2.out; omega
                case rel => exact ⟨(IntKind.u64.wrap ((IntKind.u64.wrap (x4_2 * 256)) + (IntKind.u64.wrap (bt a0 x5_2)))), (wrap64 (x5_2 + 1)), (by first | rfl | (simp; done) | (simp [*]; done)), (by first | rfl | (simp; done) | (simp [*]; done)), H', ⟨by have := HJ1.out; have := HK2.out; omega⟩, by repeat (first | exact Drawn0.refl _ | apply Drawn0.step)⟩
              · rw [if_neg c6] at H
                exact absurd H (by simp)
            · rw [if_neg c5] at H
              have c5b0 : decide (x5_2 < (a0.size : Int)) = false := decide_eq_false c5
              clear c5
              simp only [Option.some.injEq, Prod.mk.injEq] at H
              obtain ⟨rfl, rfl⟩ := H
              go_wp2
              go_ret2
              exact ⟨by first | rfl | (simp; done) | (simp [*]; done), by repeat (first | exact Drawn0.refl _ | apply Drawn0.step)⟩

/-! ### holtref1_turned: function 68 -/
def holtref1_turned.l0 : Nat → ByteArray → List Int → Int → Option (ByteArray)
  | 0, _, _, _ => none
  | k + 1, x0, x3, x4 => if x4 ≥ 0 then (if 0 ≤ x4 then (if x4 < (x0.size : Int) then (if x3.length < 140737488355328 then (holtref1_turned.l0 k x0 (x3 ++ [bt x0 x4]) (wrap64 (x4 - 1))) else (none)) else (none)) else (none)) else (some (strOfNums x3))
def holtref1_turned.f (k : Nat) (a0 : ByteArray) : Option (ByteArray) := holtref1_turned.l0 k a0 ([] : List Int) (wrap64 ((a0.size : Int) - 1))
theorem holtref1_turned.mono_l : ∀ k, (∀ y0 y1 y2, LeO (holtref1_turned.l0 k y0 y1 y2) (holtref1_turned.l0 (k + 1) y0 y1 y2))
  | 0 => fun _ _ _ r h => by simp [holtref1_turned.l0] at h
  | k + 1 => by
    have ih0 := holtref1_turned.mono_l k
    · intro y0 y1 y2
      unfold holtref1_turned.l0
      repeat' first
      | (with_reducible exact ih0 _ _ _)
      | (with_reducible exact LeO.refl _)
      | (with_reducible exact LeO.none _)
      | (with_reducible refine LeO.ite ?_ ?_)
      | (with_reducible refine LeO.bind ?_ (fun _ => ?_))
      | exact ih0 _ _ _
      | exact LeO.none _
      | refine LeO.ite ?_ ?_
      | refine LeO.bind ?_ (fun _ => ?_)
theorem holtref1_turned.mono : ∀ a0 k, LeO (holtref1_turned.f k a0) (holtref1_turned.f (k + 1) a0) := by
  intro a0 k
  have ih0 := holtref1_turned.mono_l k
  unfold holtref1_turned.f
  repeat' first
      | (with_reducible exact ih0 _ _ _)
      | (with_reducible exact LeO.refl _)
      | (with_reducible exact LeO.none _)
      | (with_reducible refine LeO.ite ?_ ?_)
      | (with_reducible refine LeO.bind ?_ (fun _ => ?_))
      | exact ih0 _ _ _
      | exact LeO.none _
      | refine LeO.ite ?_ ?_
      | refine LeO.bind ?_ (fun _ => ?_)
set_option maxHeartbeats 8000000 in
set_option maxRecDepth 100000 in
theorem holtref1_turned.calls (k : Nat) (a0 : ByteArray) (r : ByteArray) (w : World) (h : holtref1_turned.f k a0 = some r) :
    Calls Try.prog 68 #[.string a0] w fun e w' => e = .returned (.string r) ∧ Below w.heap.size w w' := by
  have HB := Aside0.mk (Below.refl w.heap.size w)
  have H : (holtref1_turned.l0 k a0 ([] : List Int) (wrap64 ((a0.size : Int) - 1))) = some r := h
  clear h
  have H' := Aside0.mk H
  clear H
  go_enter Try.func68, Try.ntmps68
  go_wp2
  go_loopg [3, 4] k (fun kq v3 v4 w' => ∃ (x3_1 : List Int) (x4_1 : Int), v4 = .int .i64 x4_1 ∧ Aside0 (holtref1_turned.l0 kq a0 x3_1 x4_1 = some r) ∧ Aside0 (kq ≤ k) ∧ Aside0 (Kd.R (Kd.int .u8) 5 w' w.heap.size (fun _ => True) v3 x3_1) ∧ Aside0 (Below w.heap.size w w'))
  case atStart => exact ⟨(([] : List Int)), (wrap64 ((a0.size : Int) - 1)), (by first | rfl | (simp; done) | (simp [*]; done)), H', ⟨Nat.le_refl _⟩, ⟨by first | exact Kd.R_nil _ _ _ _ _ | exact Kd.N_nil _ _ _ _ _ | exact Kd.V_nil _ _ _ _ _ | exact Kd.Q_nil _ _ _ _ _ | exact Kd.S_nil _ _ _ _ _⟩, ⟨by repeat (first | (with_reducible first | exact HB.out | apply below_alloc | apply pw_below_drewN | apply below_drew1) | exact HB.out)⟩⟩
  case round =>
    clear H'
    obtain ⟨x3_1, x4_1, rfl, HA, HK1, HO_3, HB⟩ := hrel
    cases gk with
    | zero => exact absurd HA.out (by simp [holtref1_turned.l0])
    | succ k1 =>
      have H := HA.out
      clear HA
      simp only [holtref1_turned.l0] at H
      by_cases c2 : x4_1 ≥ 0
      · rw [if_pos c2] at H
        have c2b0 : decide (0 ≤ x4_1) = true := decide_eq_true c2
        clear c2
        by_cases c3 : 0 ≤ x4_1
        · rw [if_pos c3] at H
          have c3b0 : decide (0 ≤ x4_1) = true := decide_eq_true c3
          clear c3
          by_cases c4 : x4_1 < (a0.size : Int)
          · rw [if_pos c4] at H
            have c4b0 : decide (x4_1 < (a0.size : Int)) = true := decide_eq_true c4
            clear c4
            by_cases c6 : x3_1.length < 140737488355328
            · rw [if_pos c6] at H
              have LMc6 := Aside0.mk c6
              clear c6
              obtain ⟨y101, hy101⟩ : ∃ y_ : List Int, y_ = (x3_1 ++ [bt a0 x4_1]) := ⟨_, rfl⟩
              replace H : (holtref1_turned.l0 k1 a0 y101 (wrap64 (x4_1 - 1))) = some r := by first | (rw [hy101]; with_reducible exact H) | (have H2_ := (Option.bind_some _ _).symm.trans H; rw [hy101]; with_reducible exact H2_) | (have H2_ := (Option.bind_some _ _).symm.trans H; with_reducible exact H2_) | with_reducible exact H | (rw [hy101]; exact H) | exact H
              have Ny101 := Aside0.mk hy101
              clear hy101
              have H' := Aside0.mk H
              clear H
              have p5 : 0 ≤ (x4_1 : Int) := of_decide_eq_true (by first | (with_reducible assumption) | assumption)
              have q5 : x4_1 < (a0.size : Int) := of_decide_eq_true (by first | (with_reducible assumption) | assumption)
              have hx5 := bt_at a0 x4_1
              replace p5 := eq_true p5
              replace q5 := eq_true q5
              go_wp2_with (first | ((with_reducible refine gate_builtin (b := .append) (xs := #[.tmp 12, .tmp 16]) rfl ?_); at_builtin; refine Kd.R_append (Kd.int .u8) (w0 := w) w.heap.size rfl (.tmp 12) (.tmp 16) 79 5 (.int .u8 0) 1 rfl Try.underlying79 info5 rfl (by decide) (by omega) u3 x3_1 (bt a0 x4_1) [.int .u8 (bt a0 x4_1)] (fun _ => True) (fun _ => False) rfl rfl ?aP (fun _ hk => hk.elim) ?aF ?aO ?aB ?aS ?aL ?_; (case aP => exact rfl); (case aB => exact (by repeat (first | (with_reducible first | exact HB.out | apply below_alloc | apply pw_below_drewN | apply below_drew1) | exact HB.out))); (case aF => exact (fun _ _ => trivial)); (case aO => exact (by (with_reducible repeat (first | apply Kd.R_alloc | apply Kd.R_drewN | apply Kd.R_drew)); exact HO_3.out)); (case aS => exact (below_size (by repeat (first | (with_reducible first | exact HB.out | apply below_alloc | apply pw_below_drewN | apply below_drew1) | exact HB.out)))); (case aL => have := LMc6.out; omega); intro v102 w7 ho hb hg hat; rw [← Ny101.out] at ho; have n0_ := Aside0.mk (hb); have n1_ := Aside0.mk (ho); clear HB; clear HO_3; have HB := n0_; have HO103 := n1_; clear n0_ n1_; clear ho hb hg hat))
              go_roundg k1
              case measure => have := HK1.out; omega
              case rel => exact ⟨(y101), (wrap64 (x4_1 - 1)), (by first | rfl | (simp; done) | (simp [*]; done)), H', ⟨by have := HK1.out; omega⟩, ⟨by (with_reducible repeat (first | apply Kd.R_alloc | apply Kd.R_drewN | apply Kd.R_drew)); exact HO103.out⟩, ⟨by repeat (first | (with_reducible first | exact HB.out | apply below_alloc | apply pw_below_drewN | apply below_drew1) | exact HB.out)⟩⟩
            · rw [if_neg c6] at H
              exact absurd H (by simp)
          · rw [if_neg c4] at H
            exact absurd H (by simp)
        · rw [if_neg c3] at H
          exact absurd H (by simp)
      · rw [if_neg c2] at H
        have c2b0 : decide (0 ≤ x4_1) = false := decide_eq_false c2
        clear c2
        obtain rfl := Option.some.inj H
        have hcv8 := own_string (P := Try.prog) Try.underlying79 Try.underlying5 Try.underlying9 (Kd.own_of_R HO_3.out)
        go_wp2
        go_ret
        exact ⟨by first | rfl | (simp [errW_none, errW_some] <;> rfl) | (simp [*, errW_none, errW_some] <;> rfl), by repeat (first | (with_reducible first | exact HB.out | apply below_alloc | apply pw_below_drewN | apply below_drew1) | exact HB.out)⟩

/-! ### holtref1_OfLe: function 63 -/
def holtref1_OfLe.f (k : Nat) (a0 : ByteArray) : Option (Int × Int) := (holtref1_turned.f k a0).bind fun t104 => ((holtref1_OfBe.f k t104).bind fun bt105 => (some (bt105.1, bt105.2)))
theorem holtref1_OfLe.mono : ∀ a0 k, LeO (holtref1_OfLe.f k a0) (holtref1_OfLe.f (k + 1) a0) := by
  intro a0 k
  unfold holtref1_OfLe.f
  repeat' first
      | (with_reducible exact holtref1_OfBe.mono _ _)
      | (with_reducible exact holtref1_turned.mono _ _)
      | (with_reducible exact LeO.refl _)
      | (with_reducible exact LeO.none _)
      | (with_reducible refine LeO.ite ?_ ?_)
      | (with_reducible refine LeO.bind ?_ (fun _ => ?_))
      | exact holtref1_OfBe.mono _ _
      | exact holtref1_turned.mono _ _
      | exact LeO.none _
      | refine LeO.ite ?_ ?_
      | refine LeO.bind ?_ (fun _ => ?_)
set_option maxHeartbeats 8000000 in
set_option maxRecDepth 100000 in
theorem holtref1_OfLe.calls (k : Nat) (a0 : ByteArray) (r1 : Int) (r2 : Int) (w : World) (h : holtref1_OfLe.f k a0 = some (r1, r2)) :
    Calls Try.prog 63 #[.string a0] w fun e w' => e = .returned (.tuple #[.int .u64 r1, .int .i64 r2]) ∧ Below w.heap.size w w' := by
  have HB := Aside0.mk (Below.refl w.heap.size w)
  have H : ((holtref1_turned.f k a0).bind fun t104 => ((holtref1_OfBe.f k t104).bind fun bt105 => (some (bt105.1, bt105.2)))) = some (r1, r2) := h
  clear h
  replace H := Option.bind_eq_some_iff.mp H
  obtain ⟨t104, A20, H⟩ := H
  replace H : ((holtref1_OfBe.f k t104).bind fun bt105 => (some (bt105.1, bt105.2))) = some (r1, r2) := H
  have A2 := Aside0.mk A20
  clear A20
  replace H := Option.bind_eq_some_iff.mp H
  obtain ⟨⟨t105, t106⟩, A30, H⟩ := H
  replace H : (some (t105, t106)) = some (r1, r2) := H
  have A3 := Aside0.mk A30
  clear A30
  simp only [Option.some.injEq, Prod.mk.injEq] at H
  obtain ⟨rfl, rfl⟩ := H
  go_enter Try.func63, Try.ntmps63
  go_wp2_with (first | ((with_reducible refine gate_callee (f := 68) rfl ?_); refine goesL_ (some 5) rfl rfl Try.func68 (by kernel_rfl) rfl #[.string a0] rfl (by (try simp only [List.map_toArray, List.map_cons, List.map_nil]); first | done | rfl | (simp only [List.length_drop, List.length_take]; rfl)) ?_; (with_reducible refine (holtref1_turned.calls k a0 t104 _ A2.out).mono ?_); rintro e w4 ⟨rfl, hb⟩; refine ⟨_, rfl, ?_⟩; have n0_ := Aside0.mk (below_step (by repeat (first | (with_reducible first | exact HB.out | apply below_alloc | apply pw_below_drewN | apply below_drew1) | exact HB.out)) hb); clear HB; have HB := n0_; clear n0_; (try clear hb); (try clear hb2); (try clear hk); (try clear hi)) | ((with_reducible refine gate_callee (f := 67) rfl ?_); refine goesL_ (some 6) rfl rfl Try.func67 (by kernel_rfl) rfl #[.string t104] rfl (by (try simp only [List.map_toArray, List.map_cons, List.map_nil]); first | done | rfl | (simp only [List.length_drop, List.length_take]; rfl)) ?_; (with_reducible refine (holtref1_OfBe.calls k t104 t105 t106 _ A3.out).mono ?_); rintro e w' ⟨rfl, ⟨nd, rfl⟩⟩; refine ⟨_, rfl, ?_⟩))
  go_ret2
  exact ⟨by first | rfl | (simp [errW_none, errW_some] <;> rfl) | (simp [*, errW_none, errW_some] <;> rfl), by repeat (first | (with_reducible first | exact HB.out | apply below_alloc | apply pw_below_drewN | apply below_drew1) | exact HB.out)⟩

/-! ### holtref21_Decode: function 65 -/
def holtref21_Decode.f (k : Nat) (a0 : ByteArray) : Option (Int × Int × Int × Int × Int) := if (a0.size : Int) = 28 then (if 0 ≤ 4 then (if 4 ≤ (a0.size : Int) then ((holtref1_OfLe.f k (a0.extract 0 4)).bind fun bt108 => (if 4 ≤ 12 then (if 12 ≤ (a0.size : Int) then ((holtref1_OfLe.f k (a0.extract 4 12)).bind fun bt110 => (if 12 ≤ 20 then (if 20 ≤ (a0.size : Int) then ((holtref1_OfLe.f k (a0.extract 12 20)).bind fun bt112 => ((holtref1_OfLe.f k (a0.extract 20 a0.size)).bind fun bt114 => (some ((bt108.1) % 4294967296, bt110.1, bt112.1, bt114.1, 0)))) else (none)) else (none))) else (none)) else (none))) else (none)) else (none)) else (some (0, 0, 0, 0, 2100))
theorem holtref21_Decode.mono : ∀ a0 k, LeO (holtref21_Decode.f k a0) (holtref21_Decode.f (k + 1) a0) := by
  intro a0 k
  unfold holtref21_Decode.f
  repeat' first
      | (with_reducible exact holtref1_OfLe.mono _ _)
      | (with_reducible exact LeO.refl _)
      | (with_reducible exact LeO.none _)
      | (with_reducible refine LeO.ite ?_ ?_)
      | (with_reducible refine LeO.bind ?_ (fun _ => ?_))
      | exact holtref1_OfLe.mono _ _
      | exact LeO.none _
      | refine LeO.ite ?_ ?_
      | refine LeO.bind ?_ (fun _ => ?_)
set_option maxHeartbeats 8000000 in
set_option maxRecDepth 100000 in
theorem holtref21_Decode.calls (k : Nat) (a0 : ByteArray) (r1 : Int) (r2 : Int) (r3 : Int) (r4 : Int) (r5 : Int) (w : World) (h : holtref21_Decode.f k a0 = some (r1, r2, r3, r4, r5)) :
    Calls Try.prog 65 #[.string a0] w fun e w' => e = .returned (.tuple #[.agg #[.int .u32 r1, .int .u64 r2, .int .u64 r3, .int .u64 r4], .int .i64 r5]) ∧ Below w.heap.size w w' := by
  have hu25 := Try.underlying25
  have HB := Aside0.mk (Below.refl w.heap.size w)
  have H : (if (a0.size : Int) = 28 then (if 0 ≤ 4 then (if 4 ≤ (a0.size : Int) then ((holtref1_OfLe.f k (a0.extract 0 4)).bind fun bt108 => (if 4 ≤ 12 then (if 12 ≤ (a0.size : Int) then ((holtref1_OfLe.f k (a0.extract 4 12)).bind fun bt110 => (if 12 ≤ 20 then (if 20 ≤ (a0.size : Int) then ((holtref1_OfLe.f k (a0.extract 12 20)).bind fun bt112 => ((holtref1_OfLe.f k (a0.extract 20 a0.size)).bind fun bt114 => (some ((bt108.1) % 4294967296, bt110.1, bt112.1, bt114.1, 0)))) else (none)) else (none))) else (none)) else (none))) else (none)) else (none)) else (some (0, 0, 0, 0, 2100))) = some (r1, r2, r3, r4, r5) := h
  clear h
  by_cases c2 : (a0.size : Int) = 28
  · rw [if_pos c2] at H
    have c2b0 : ((a0.size : Int) == 28) = true := beq_iff_eq.mpr c2
    have c2b1 : ((a0.size : Int) != 28) = false := bne_eq_false_iff_eq.mpr c2
    clear c2
    by_cases c3 : 0 ≤ 4
    · rw [if_pos c3] at H
      have c3b0 := eq_true c3
      have c3b1 : decide (0 ≤ 4) = true := decide_eq_true c3
      clear c3
      by_cases c4 : 4 ≤ (a0.size : Int)
      · rw [if_pos c4] at H
        have c4b0 := eq_true c4
        have c4b1 : decide (4 ≤ (a0.size : Int)) = true := decide_eq_true c4
        clear c4
        replace H := Option.bind_eq_some_iff.mp H
        obtain ⟨⟨t108, t109⟩, A50, H⟩ := H
        replace H : (if 4 ≤ 12 then (if 12 ≤ (a0.size : Int) then ((holtref1_OfLe.f k (a0.extract 4 12)).bind fun bt110 => (if 12 ≤ 20 then (if 20 ≤ (a0.size : Int) then ((holtref1_OfLe.f k (a0.extract 12 20)).bind fun bt112 => ((holtref1_OfLe.f k (a0.extract 20 a0.size)).bind fun bt114 => (some ((t108) % 4294967296, bt110.1, bt112.1, bt114.1, 0)))) else (none)) else (none))) else (none)) else (none)) = some (r1, r2, r3, r4, r5) := H
        have A5 := Aside0.mk A50
        clear A50
        by_cases c6 : 4 ≤ 12
        · rw [if_pos c6] at H
          have c6b0 := eq_true c6
          have c6b1 : decide (4 ≤ 12) = true := decide_eq_true c6
          clear c6
          by_cases c7 : 12 ≤ (a0.size : Int)
          · rw [if_pos c7] at H
            have c7b0 := eq_true c7
            have c7b1 : decide (12 ≤ (a0.size : Int)) = true := decide_eq_true c7
            clear c7
            replace H := Option.bind_eq_some_iff.mp H
            obtain ⟨⟨t110, t111⟩, A80, H⟩ := H
            replace H : (if 12 ≤ 20 then (if 20 ≤ (a0.size : Int) then ((holtref1_OfLe.f k (a0.extract 12 20)).bind fun bt112 => ((holtref1_OfLe.f k (a0.extract 20 a0.size)).bind fun bt114 => (some ((t108) % 4294967296, t110, bt112.1, bt114.1, 0)))) else (none)) else (none)) = some (r1, r2, r3, r4, r5) := H
            have A8 := Aside0.mk A80
            clear A80
            by_cases c9 : 12 ≤ 20
            · rw [if_pos c9] at H
              have c9b0 := eq_true c9
              have c9b1 : decide (12 ≤ 20) = true := decide_eq_true c9
              clear c9
              by_cases c10 : 20 ≤ (a0.size : Int)
              · rw [if_pos c10] at H
                have c10b0 := eq_true c10
                have c10b1 : decide (20 ≤ (a0.size : Int)) = true := decide_eq_true c10
                clear c10
                replace H := Option.bind_eq_some_iff.mp H
                obtain ⟨⟨t112, t113⟩, A110, H⟩ := H
                replace H : ((holtref1_OfLe.f k (a0.extract 20 a0.size)).bind fun bt114 => (some ((t108) % 4294967296, t110, t112, bt114.1, 0))) = some (r1, r2, r3, r4, r5) := H
                have A11 := Aside0.mk A110
                clear A110
                have c12b0 := eq_true (of_decide_eq_true (by first | (with_reducible assumption) | assumption) : 20 ≤ (a0.size : Int))
                replace H := Option.bind_eq_some_iff.mp H
                obtain ⟨⟨t114, t115⟩, A130, H⟩ := H
                replace H : (some ((t108) % 4294967296, t110, t112, t114, 0)) = some (r1, r2, r3, r4, r5) := H
                have A13 := Aside0.mk A130
                clear A130
                simp only [Option.some.injEq, Prod.mk.injEq] at H
                obtain ⟨rfl, rfl, rfl, rfl, rfl⟩ := H
                go_enter Try.func65, Try.ntmps65
                go_wp2_with (first | ((with_reducible refine gate_dst (N := 2) rfl ?_); refine box_event ?hg (N := 2) ?hd (cs := #[.int .u32 0, .int .u64 0, .int .u64 0, .int .u64 0]) (t := 25) ?hr ?_; (case hd => rfl); (case hg => rfl); (case hr => first | (go_simp; done) | (go_simp; rfl)); intro gb107 hg w14 hbox hb; have n0_ := Aside0.mk (below_step (by repeat (first | (with_reducible first | exact HB.out | apply below_alloc | apply pw_below_drewN | apply below_drew1) | exact HB.out)) hb); have n1_ := Aside0.mk (hbox); have n2_ := Aside0.mk ((by rw [hg]; exact (below_size (by repeat (first | (with_reducible first | exact HB.out | apply below_alloc | apply pw_below_drewN | apply below_drew1) | exact HB.out))) : w.heap.size ≤ gb107)); have n3_ := Aside0.mk ((by rw [hg]; exact (below_size (by repeat (first | (with_reducible first | exact HB.out | apply below_alloc | apply pw_below_drewN | apply below_drew1) | exact HB.out))) : w.heap.size ≤ gb107)); clear HB; have HB := n0_; have BK107 := n1_; have GW107 := n2_; have GE107 := n3_; clear n0_ n1_ n2_ n3_; clear hb hbox hg) | ((with_reducible refine gate_callee (f := 63) rfl ?_); refine goesL_ (some 19) rfl rfl Try.func63 (by kernel_rfl) rfl #[.string (a0.extract 0 4)] rfl (by (try simp only [List.map_toArray, List.map_cons, List.map_nil]); first | done | rfl | (simp only [List.length_drop, List.length_take]; rfl)) ?_; (with_reducible refine (holtref1_OfLe.calls k (a0.extract 0 4) t108 t109 _ A5.out).mono ?_); rintro e w15 ⟨rfl, hb⟩; refine ⟨_, rfl, ?_⟩; have n0_ := Aside0.mk (blk_below (g := gb107) (o := .cells #[.int .u32 0, .int .u64 0, .int .u64 0, .int .u64 0] 25 (0, 0)) (by (with_reducible repeat (first | refine blk_drewN ?_ _ | refine blk_drew ?_ | refine blk_alloc ?_ _)); exact BK107.out) hb); have n1_ := Aside0.mk (below_step (by repeat (first | (with_reducible first | exact HB.out | apply below_alloc | apply pw_below_drewN | apply below_drew1 | refine below_set ?_ GE107.out) | exact HB.out)) hb); clear BK107; clear HB; have BK107 := n0_; have HB := n1_; clear n0_ n1_; (try clear hb); (try clear hb2); (try clear hk); (try clear hi)) | ((with_reducible refine gate_callee (f := 63) rfl ?_); refine goesL_ (some 25) rfl rfl Try.func63 (by kernel_rfl) rfl #[.string (a0.extract 4 12)] rfl (by (try simp only [List.map_toArray, List.map_cons, List.map_nil]); first | done | rfl | (simp only [List.length_drop, List.length_take]; rfl)) ?_; (with_reducible refine (holtref1_OfLe.calls k (a0.extract 4 12) t110 t111 _ A8.out).mono ?_); rintro e w16 ⟨rfl, hb⟩; refine ⟨_, rfl, ?_⟩; have n0_ := Aside0.mk (blk_below (g := gb107) (o := .cells #[.int .u32 0, .int .u64 0, .int .u64 0, .int .u64 0] 25 (0, 0)) (by (with_reducible repeat (first | refine blk_drewN ?_ _ | refine blk_drew ?_ | refine blk_alloc ?_ _)); exact BK107.out) hb); have n1_ := Aside0.mk (below_step (by repeat (first | (with_reducible first | exact HB.out | apply below_alloc | apply pw_below_drewN | apply below_drew1 | refine below_set ?_ GE107.out) | exact HB.out)) hb); clear BK107; clear HB; have BK107 := n0_; have HB := n1_; clear n0_ n1_; (try clear hb); (try clear hb2); (try clear hk); (try clear hi)) | ((with_reducible refine gate_callee (f := 63) rfl ?_); refine goesL_ (some 31) rfl rfl Try.func63 (by kernel_rfl) rfl #[.string (a0.extract 12 20)] rfl (by (try simp only [List.map_toArray, List.map_cons, List.map_nil]); first | done | rfl | (simp only [List.length_drop, List.length_take]; rfl)) ?_; (with_reducible refine (holtref1_OfLe.calls k (a0.extract 12 20) t112 t113 _ A11.out).mono ?_); rintro e w17 ⟨rfl, hb⟩; refine ⟨_, rfl, ?_⟩; have n0_ := Aside0.mk (blk_below (g := gb107) (o := .cells #[.int .u32 0, .int .u64 0, .int .u64 0, .int .u64 0] 25 (0, 0)) (by (with_reducible repeat (first | refine blk_drewN ?_ _ | refine blk_drew ?_ | refine blk_alloc ?_ _)); exact BK107.out) hb); have n1_ := Aside0.mk (below_step (by repeat (first | (with_reducible first | exact HB.out | apply below_alloc | apply pw_below_drewN | apply below_drew1 | refine below_set ?_ GE107.out) | exact HB.out)) hb); clear BK107; clear HB; have BK107 := n0_; have HB := n1_; clear n0_ n1_; (try clear hb); (try clear hb2); (try clear hk); (try clear hi)) | ((with_reducible refine gate_callee (f := 63) rfl ?_); refine goesL_ (some 37) rfl rfl Try.func63 (by kernel_rfl) rfl #[.string (a0.extract 20 a0.size)] rfl (by (try simp only [List.map_toArray, List.map_cons, List.map_nil]); first | done | rfl | (simp only [List.length_drop, List.length_take]; rfl)) ?_; (with_reducible refine (holtref1_OfLe.calls k (a0.extract 20 a0.size) t114 t115 _ A13.out).mono ?_); rintro e w18 ⟨rfl, hb⟩; refine ⟨_, rfl, ?_⟩; have n0_ := Aside0.mk (blk_below (g := gb107) (o := .cells #[.int .u32 0, .int .u64 0, .int .u64 0, .int .u64 0] 25 (0, 0)) (by (with_reducible repeat (first | refine blk_drewN ?_ _ | refine blk_drew ?_ | refine blk_alloc ?_ _)); exact BK107.out) hb); have n1_ := Aside0.mk (below_step (by repeat (first | (with_reducible first | exact HB.out | apply below_alloc | apply pw_below_drewN | apply below_drew1 | refine below_set ?_ GE107.out) | exact HB.out)) hb); clear BK107; clear HB; have BK107 := n0_; have HB := n1_; clear n0_ n1_; (try clear hb); (try clear hb2); (try clear hk); (try clear hi); have hcz19_0 : w18.cell? ⟨gb107, 0, none⟩ = some (.int .u32 0) := (blk_cell BK107.out 0).trans rfl; have hcz19_1 : w18.cell? ⟨gb107, 1, none⟩ = some (.int .u64 0) := (blk_cell BK107.out 1).trans rfl; have hcz19_2 : w18.cell? ⟨gb107, 2, none⟩ = some (.int .u64 0) := (blk_cell BK107.out 2).trans rfl; have hcz19_3 : w18.cell? ⟨gb107, 3, none⟩ = some (.int .u64 0) := (blk_cell BK107.out 3).trans rfl; have hfz19_0 := blk_frozen BK107.out 0; have hfz19_1 := blk_frozen BK107.out 1; have hfz19_2 := blk_frozen BK107.out 2; have hfz19_3 := blk_frozen BK107.out 3))
                refine bodyPost_ret (results_ct rfl _ _ gb107 25 #[.int .u32 ((t108) % 4294967296), .int .u64 t110, .int .u64 t112, .int .u64 t114] (0, 0) _ rfl (by (with_reducible repeat (first | refine blk_drewN ?_ _ | refine blk_drew ?_ | refine blk_alloc ?_ _)); refine blk_put (cs := #[.int .u32 ((t108) % 4294967296), .int .u64 t110, .int .u64 t112, .int .u64 0]) ?_ 3 _ rfl; (with_reducible repeat (first | refine blk_drewN ?_ _ | refine blk_drew ?_ | refine blk_alloc ?_ _)); refine blk_put (cs := #[.int .u32 ((t108) % 4294967296), .int .u64 t110, .int .u64 0, .int .u64 0]) ?_ 2 _ rfl; (with_reducible repeat (first | refine blk_drewN ?_ _ | refine blk_drew ?_ | refine blk_alloc ?_ _)); refine blk_put (cs := #[.int .u32 ((t108) % 4294967296), .int .u64 0, .int .u64 0, .int .u64 0]) ?_ 1 _ rfl; (with_reducible repeat (first | refine blk_drewN ?_ _ | refine blk_drew ?_ | refine blk_alloc ?_ _)); refine blk_put (cs := #[.int .u32 0, .int .u64 0, .int .u64 0, .int .u64 0]) ?_ 0 _ rfl; (with_reducible repeat (first | refine blk_drewN ?_ _ | refine blk_drew ?_ | refine blk_alloc ?_ _)); exact BK107.out) Try.underlying25 rfl (by kernel_rfl)) rfl ?_
                exact ⟨by first | rfl | (simp [errW_none, errW_some] <;> rfl) | (simp [*, errW_none, errW_some] <;> rfl), by repeat (first | (with_reducible first | exact HB.out | apply below_alloc | apply pw_below_drewN | apply below_drew1 | refine below_set ?_ GE107.out) | exact HB.out)⟩
              · rw [if_neg c10] at H
                exact absurd H (by simp)
            · rw [if_neg c9] at H
              exact absurd H (by simp)
          · rw [if_neg c7] at H
            exact absurd H (by simp)
        · rw [if_neg c6] at H
          exact absurd H (by simp)
      · rw [if_neg c4] at H
        exact absurd H (by simp)
    · rw [if_neg c3] at H
      exact absurd H (by simp)
  · rw [if_neg c2] at H
    have c2b0 : ((a0.size : Int) == 28) = false := beq_eq_false_iff_ne.mpr c2
    have c2b1 : ((a0.size : Int) != 28) = true := bne_iff_ne.mpr c2
    simp only [Option.some.injEq, Prod.mk.injEq] at H
    obtain ⟨rfl, rfl, rfl, rfl, rfl⟩ := H
    go_enter Try.func65, Try.ntmps65
    go_wp2_with (first | ((with_reducible refine gate_dst (N := 2) rfl ?_); refine box_event ?hg (N := 2) ?hd (cs := #[.int .u32 0, .int .u64 0, .int .u64 0, .int .u64 0]) (t := 25) ?hr ?_; (case hd => rfl); (case hg => rfl); (case hr => first | (go_simp; done) | (go_simp; rfl)); intro gb107 hg w20 hbox hb; have n0_ := Aside0.mk (below_step (by repeat (first | (with_reducible first | exact HB.out | apply below_alloc | apply pw_below_drewN | apply below_drew1) | exact HB.out)) hb); have n1_ := Aside0.mk (hbox); have n2_ := Aside0.mk ((by rw [hg]; exact (below_size (by repeat (first | (with_reducible first | exact HB.out | apply below_alloc | apply pw_below_drewN | apply below_drew1) | exact HB.out))) : w.heap.size ≤ gb107)); have n3_ := Aside0.mk ((by rw [hg]; exact (below_size (by repeat (first | (with_reducible first | exact HB.out | apply below_alloc | apply pw_below_drewN | apply below_drew1) | exact HB.out))) : w.heap.size ≤ gb107)); clear HB; have HB := n0_; have BK107 := n1_; have GW107 := n2_; have GE107 := n3_; clear n0_ n1_ n2_ n3_; clear hb hbox hg; have hcz21_0 : w20.cell? ⟨gb107, 0, none⟩ = some (.int .u32 0) := (blk_cell BK107.out 0).trans rfl; have hcz21_1 : w20.cell? ⟨gb107, 1, none⟩ = some (.int .u64 0) := (blk_cell BK107.out 1).trans rfl; have hcz21_2 : w20.cell? ⟨gb107, 2, none⟩ = some (.int .u64 0) := (blk_cell BK107.out 2).trans rfl; have hcz21_3 : w20.cell? ⟨gb107, 3, none⟩ = some (.int .u64 0) := (blk_cell BK107.out 3).trans rfl; have hfz21_0 := blk_frozen BK107.out 0; have hfz21_1 := blk_frozen BK107.out 1; have hfz21_2 := blk_frozen BK107.out 2; have hfz21_3 := blk_frozen BK107.out 3))
    refine bodyPost_ret (results_ct rfl _ _ gb107 25 #[.int .u32 0, .int .u64 0, .int .u64 0, .int .u64 0] (0, 0) _ rfl (by (with_reducible repeat (first | refine blk_drewN ?_ _ | refine blk_drew ?_ | refine blk_alloc ?_ _)); refine blk_put (cs := #[.int .u32 0, .int .u64 0, .int .u64 0, .int .u64 0]) ?_ 3 _ rfl; (with_reducible repeat (first | refine blk_drewN ?_ _ | refine blk_drew ?_ | refine blk_alloc ?_ _)); refine blk_put (cs := #[.int .u32 0, .int .u64 0, .int .u64 0, .int .u64 0]) ?_ 2 _ rfl; (with_reducible repeat (first | refine blk_drewN ?_ _ | refine blk_drew ?_ | refine blk_alloc ?_ _)); refine blk_put (cs := #[.int .u32 0, .int .u64 0, .int .u64 0, .int .u64 0]) ?_ 1 _ rfl; (with_reducible repeat (first | refine blk_drewN ?_ _ | refine blk_drew ?_ | refine blk_alloc ?_ _)); refine blk_put (cs := #[.int .u32 0, .int .u64 0, .int .u64 0, .int .u64 0]) ?_ 0 _ rfl; (with_reducible repeat (first | refine blk_drewN ?_ _ | refine blk_drew ?_ | refine blk_alloc ?_ _)); exact BK107.out) Try.underlying25 rfl (by kernel_rfl)) rfl ?_
    exact ⟨by first | rfl | (simp [errW_none, errW_some] <;> rfl) | (simp [*, errW_none, errW_some] <;> rfl), by repeat (first | (with_reducible first | exact HB.out | apply below_alloc | apply pw_below_drewN | apply below_drew1 | refine below_set ?_ GE107.out) | exact HB.out)⟩

end Go.Proofs.Ytibcadfpengacaa.PDecode

-- Ptextx0
namespace Go.Proofs.Ytibcadfpengacaa.Ptext
open Go.RowKit Go.Proofs.YtibcadfpengacaaW.PrintWords Go.Proofs.YtibcadfpengacaaW.PrintLast Go.Proofs.YtibcadfpengacaaW.PrintMore
attribute [local go_sem] max2_int min2_int max_two min_two max_three min_three max_four min_four   -- for this text's walks alone
set_option linter.unusedVariables false
set_option linter.unusedSimpArgs false



def errW : Option Int → Value
  | none => .nilIface
  | some c => .iface 0 (.int .i64 c)
theorem errW_none : errW none = .nilIface := rfl
theorem errW_some (c : Int) : errW (some c) = .iface 0 (.int .i64 c) := rfl

theorem info5 : (Try.prog.info? 5).map (fun i => (i.zero, i.size, i.bytes)) = some (some (.int .u8 0), 1, 1) := by kernel_rfl
-- the values' own types

end Go.Proofs.Ytibcadfpengacaa.Ptext
