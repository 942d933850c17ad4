/- Words, contracts and plain laws for the claim's last text: NetD, NetL, NetR, NetE, NetF, PlainI, RefR, RefS, RefT, RefU, RefV, RefW, RefX, RefY, Decodes, NetG, NetH, NetI, NetJ, NetK. -/
import Derived.Test.YtibcadfpengacaaMn6
import Derived.Great.BuildSlice
import Derived.Test.YtibcadfpengacaaMn5
import Derived.Deep.RegionHeldLaw
import Derived.Deep.AppendLies
import Derived.Deep.DeepCutAuto
-- NetD
set_option linter.unusedVariables false
set_option linter.unusedSimpArgs false
namespace Go.Proofs.Ytibcadfpengacaa
open Go.RowKit Go.Lib Go.Proofs.YtibcadfpengacaaW.PrintWords Go.Proofs.YtibcadfpengacaaW.PrintMore Go.Proofs.YtibcadfpengacaaW.PrintLast

def toL (s : ByteArray) : List UInt8 := s.data.toList
theorem encStr_toL (s : ByteArray) : encStr (toL s) = .string s := by
  unfold toL
  show Value.string ⟨s.data.toList.toArray⟩ = _
  rw [Array.toArray_toList]
theorem map_encStr (ss : List ByteArray) : (ss.map toL).map encStr = ss.map .string := by
  rw [List.map_map]
  exact List.map_congr_left (fun s _ => encStr_toL s)
theorem delete_own (base g cap i : Nat) (ss : List ByteArray) (hi : i < ss.length) (w : World) (hown : w.ownsRow base 9 1 (.slice (some ⟨g, 0, none⟩) ss.length cap) ss.length (ss.map .string)) :
    Calls Try.prog 46 #[.slice (some ⟨g, 0, none⟩) ss.length cap, .int .i64 i, .int .i64 ((i : Int) + 1)] w fun e w' => e = .returned (.slice (some ⟨g, 0, none⟩) (ss.length - 1) cap) ∧
      w'.ownsRow base 9 1 (.slice (some ⟨g, 0, none⟩) (ss.length - 1) cap) (ss.length - 1) ((ss.eraseIdx i).map .string) ∧ Keeps (fun k => k = g) w w' := by
  have hown' := hown
  obtain ⟨_, h | ⟨g', cap', cur, hv, hbg, hb, hnc, hcm, hcs, htk⟩⟩ := hown
  · cases h.1
  injection hv with e1 _ e3
  injection e1 with e1
  injection e1 with e1 _ _
  subst e1 e3
  have hm : cap ≤ 9223372036854775807 := by unfold maxLen at hcm; exact hcm
  have hl : (ss.map toL).length = ss.length := List.length_map ..
  have hH : Go.Sort.Holds encStr w g 0 (ss.map toL).toArray := fun j hj => by
    have hj' : j < ss.length := by simpa using hj
    rw [Nat.zero_add]
    refine ⟨?_, World.ownsRow.frozenAt hown' j⟩
    rw [World.ownsRow.cellAt hown' j (by omega)]
    rw [← map_encStr, List.getElem?_map, List.getElem?_map]
    simp [hj']
  have h := Try.slices_Delete_string g 0 cap i (i + 1) (ss.map toL) w hH (by omega) hm (by omega) (by omega)
  rw [hl, show ((i + 1 : Nat) : Int) = (i : Int) + 1 from by omega] at h
  refine h.mono ?_
  rintro e w' ⟨rfl, q, rfl⟩
  have e11 : i + 1 - i = 1 := by omega
  rw [e11]
  generalize hd : (ss.map toL).take i ++ (ss.map toL).drop (i + 1) ++ List.replicate 1 [] = d
  have hdl : d.length = ss.length := by
    rw [← hd]
    simp
    omega
  have hheap : (Go.Sort.putRow encStr (Go.Sort.ahead w q) g 0 d.toArray).heap[g]? = some (.cells (Go.Sort.putCells encStr 0 d.toArray cur) 9 (0, 0)) := by
    simp [Go.Sort.putRow, Go.Sort.mapBlock, Go.Sort.ahead, Array.getElem?_modify, hb, Go.Sort.onCells]
  refine ⟨rfl, ⟨by rw [List.length_map, List.length_eraseIdx_of_lt hi]; omega, .inr ⟨g, cap, _, rfl, hbg, hheap, by omega, hcm, by simp [Go.Sort.putCells, hcs], ?_⟩⟩, ?_⟩
  · rw [Nat.mul_one]
    have h1 := Go.take_putCells cur d (by rw [hcs, hdl]; omega)
    rw [hdl] at h1
    have h2 : (Go.Sort.putCells encStr 0 d.toArray cur).toList.take (ss.length - 1) = (d.map encStr).take (ss.length - 1) := by
      rw [← h1, List.take_take, Nat.min_eq_left (by omega)]
    rw [h2, ← hd, ← map_encStr, List.eraseIdx_eq_take_drop_succ, List.map_append, List.map_append, List.map_append, List.map_take, List.map_drop]
    rw [List.take_append_of_le_length (by simp; omega), List.take_of_length_le (by simp; omega)]
    simp [List.map_take, List.map_drop]
  · refine ⟨rfl, rfl, rfl, by simp, fun k hk hn => ?_⟩
    have hne : ¬ g = k := fun e => hn e.symm
    simp [Go.Sort.putRow, Go.Sort.mapBlock, Go.Sort.ahead, Array.getElem?_modify, hne]

theorem Blk.apart {w : World} {a b : Nat} {t u : TypeId} {cs ds : List Value} (h1 : Blk w a t cs) (h2 : Blk w b u ds) (hne : t ≠ u) : a ≠ b := by
  intro e
  subst e
  have h6 := (show w.heap[a]? = _ from h1).symm.trans h2
  injection h6 with h6
  injection h6 with _ h7 _
  exact hne h7
theorem NetAt.apart {w : World} {N base : Nat} {g : Option Nat} {ss : List ByteArray} (h : NetAt w N base g ss) {b : Nat} {t : TypeId} {cs : List Value} (hb : Blk w b t cs) (h1 : t ≠ 103) (h2 : t ≠ 9) : N ≠ b ∧ g ≠ some b := by
  obtain ⟨A, c, hN, hown, rfl⟩ := h
  refine ⟨fun e => hN.apart hb (fun e => h1 e.symm) e, fun e => ?_⟩
  rcases slice_cur hown with ⟨rfl, _⟩ | ⟨g, cur, rfl, hc⟩
  · cases e
  · have e2 : g = b := by simpa [Value.ownBlock] using e
    subst e2
    have h6 := (show w.heap[g]? = _ from hb).symm.trans hc
    injection h6 with h6
    injection h6 with _ h7 _
    exact h2 h7
theorem OwnEnts.apart {w0 w : World} {A : Option Addr} {cap : Nat} {es : List Ent} (h : OwnEnts w0 w A cap es) {g : Nat} {t : TypeId} {cs : List Value} (hg : Blk w g t cs) (h1 : t ≠ 99) : ¬ A = some ⟨g, 0, none⟩ := by
  intro e
  rcases h with ⟨_, rfl, _⟩ | ⟨L, _, rfl, _, _, h5⟩
  · cases e
  · injection e with e
    injection e with e _ _
    subst e
    exact h5.apart hg (fun e => h1 e.symm) rfl
theorem OwnEnts.apartRow {w0 w : World} {A : Option Addr} {cap : Nat} {es : List Ent} (h : OwnEnts w0 w A cap es) {base : Nat} {e : TypeId} {size : Nat} {B : Option Addr} {n c : Nat} {xs : List Value} (ho : w.ownsRow base e size (.slice B n c) n xs) (b : Nat) (hA : A = some ⟨b, 0, none⟩) (hB : (Value.slice B n c).ownBlock = some b) (h1 : e ≠ 99 := by decide) : False := by
  rcases h with ⟨_, rfl, _⟩ | ⟨L, _, rfl, _, _, h5⟩
  · cases hA
  · injection hA with hA
    injection hA with hA _ _
    subst hA
    rcases slice_cur ho with ⟨rfl, _⟩ | ⟨g, cur, rfl, hc⟩
    · cases hB
    · have e2 : g = L := by simpa [Value.ownBlock] using hB
      subst e2
      have h6 := (show w.heap[g]? = _ from h5).symm.trans hc
      injection h6 with h6
      injection h6 with _ h7 _
      exact h1 h7.symm
theorem OwnEnts.below' {w0 w w' : World} {A : Option Addr} {cap : Nat} {es : List Ent} (h : OwnEnts w0 w A cap es) (hb : Below w.heap.size w w') : OwnEnts w0 w' A cap es := by
  rcases h with h | ⟨L, h1, h2, h3, h4, h5⟩
  · exact .inl h
  · exact .inr ⟨L, h1, h2, h3, h4, h5.below hb⟩
theorem OwnEnts.keeps {S : Nat → Prop} {w0 w w' : World} {A : Option Addr} {cap : Nat} {es : List Ent} (h : OwnEnts w0 w A cap es) (k : Keeps S w w') (hn : ∀ b, A = some ⟨b, 0, none⟩ → ¬ S b) : OwnEnts w0 w' A cap es := by
  rcases h with h | ⟨L, h1, h2, h3, h4, h5⟩
  · exact .inl h
  · exact .inr ⟨L, h1, h2, h3, h4, h5.kept k (hn L h2)⟩

set_option maxHeartbeats 4000000 in
set_option maxRecDepth 100000 in
theorem deliver_low (N n c : Nat) (A : Option Addr) (i : Int) (h : i < 0) (w : World) (hc : w.cell? ⟨N, 0, none⟩ = some (.slice A n c)) :
    Calls Try.prog 22 #[.pointer (some ⟨N, 0, none⟩), .int .i64 i] w fun e w' => e = .returned (.tuple #[.agg zcs.toArray, .int .i64 2601]) ∧ Below w.heap.size w w' := by
  have HM := Lib.hid (fun w hc => may_low N n c A i h w hc)
  have Hc := Lib.hid hc
  have hlt := World.block_lt_of_cell? w _ hc
  clear h hc
  go_enter Try.func22, Try.ntmps22
  go_wp2_with (first
    | ((with_reducible refine gate_dst (N := 4) rfl ?_); refine box_event rfl (N := 4) rfl (run_allocM _ _ rfl _) ?_; intro gr hgr v1 hbox hbel; have Br := Lib.hid (show Blk v1 gr 36 zcs from hbox); have BLgr := Lib.hid hbel; have Hgr := Lib.hid hgr; clear hbox hbel hgr; have c0 := Lib.hid ((BLgr.out.cell (p := ⟨N, 0, none⟩) hlt).trans Hc.out))
    | (go_at_call 45; refine (HM.out _ c0.out).mono ?_; rintro e w' ⟨rfl, rfl⟩)
    | ((with_reducible refine gate_dst (N := 14) rfl ?_); refine Kd.event_run rfl (run_buildM _ _ rfl _) ?_)
    | ((with_reducible refine gate_store (t := 36) (p := 4) rfl ?_); refine wpList_store_mid rfl 36 _ _ rfl gr 0 zcs.toArray rfl rfl ?ht ?hi ?h1 ?_; (case ht => exact Br.out.there 33 (Nat.le_refl 33)); (case hi => exact infoMsg); (case h1 => exact all_oneCell_toArray zcs_one); have B2gr := Lib.hid (Br.out.setAll zcs rfl); have Kgr := Lib.hid (Keeps.setCells (S := fun k => k = gr) zcs 0 v1 (Keeps.refl _ _) (fun _ => rfl)); change wpList _ _ _ _ _ (v1.setCells gr 0 zcs); generalize v1.setCells gr 0 zcs = v2 at B2gr Kgr ⊢))
  refine bodyPost_ret (v := .tuple #[.agg zcs.toArray, .int .i64 2601]) (results_cell_tmp Try.results22 (by rfl) (by rfl) (load_msg B2gr.out zcs_len)) rfl ⟨rfl, ?_⟩
  exact BLgr.out.trans (Kgr.out.below BLgr.out.size (fun k hk => by show ¬ k = gr; have := Hgr.out; omega))
set_option maxHeartbeats 4000000 in
set_option maxRecDepth 100000 in
theorem deliver_high (N n c : Nat) (A : Option Addr) (i : Int) (h : (n : Int) ≤ i) (w : World) (hc : w.cell? ⟨N, 0, none⟩ = some (.slice A n c)) :
    Calls Try.prog 22 #[.pointer (some ⟨N, 0, none⟩), .int .i64 i] w fun e w' => e = .returned (.tuple #[.agg zcs.toArray, .int .i64 2601]) ∧ Below w.heap.size w w' := by
  have HM := Lib.hid (fun w hc => may_high N n c A i h w hc)
  have Hc := Lib.hid hc
  have hlt := World.block_lt_of_cell? w _ hc
  clear h hc
  go_enter Try.func22, Try.ntmps22
  go_wp2_with (first
    | ((with_reducible refine gate_dst (N := 4) rfl ?_); refine box_event rfl (N := 4) rfl (run_allocM _ _ rfl _) ?_; intro gr hgr v1 hbox hbel; have Br := Lib.hid (show Blk v1 gr 36 zcs from hbox); have BLgr := Lib.hid hbel; have Hgr := Lib.hid hgr; clear hbox hbel hgr; have c0 := Lib.hid ((BLgr.out.cell (p := ⟨N, 0, none⟩) hlt).trans Hc.out))
    | (go_at_call 45; refine (HM.out _ c0.out).mono ?_; rintro e w' ⟨rfl, rfl⟩)
    | ((with_reducible refine gate_dst (N := 14) rfl ?_); refine Kd.event_run rfl (run_buildM _ _ rfl _) ?_)
    | ((with_reducible refine gate_store (t := 36) (p := 4) rfl ?_); refine wpList_store_mid rfl 36 _ _ rfl gr 0 zcs.toArray rfl rfl ?ht ?hi ?h1 ?_; (case ht => exact Br.out.there 33 (Nat.le_refl 33)); (case hi => exact infoMsg); (case h1 => exact all_oneCell_toArray zcs_one); have B2gr := Lib.hid (Br.out.setAll zcs rfl); have Kgr := Lib.hid (Keeps.setCells (S := fun k => k = gr) zcs 0 v1 (Keeps.refl _ _) (fun _ => rfl)); change wpList _ _ _ _ _ (v1.setCells gr 0 zcs); generalize v1.setCells gr 0 zcs = v2 at B2gr Kgr ⊢))
  refine bodyPost_ret (v := .tuple #[.agg zcs.toArray, .int .i64 2601]) (results_cell_tmp Try.results22 (by rfl) (by rfl) (load_msg B2gr.out zcs_len)) rfl ⟨rfl, ?_⟩
  exact BLgr.out.trans (Kgr.out.below BLgr.out.size (fun k hk => by show ¬ k = gr; have := Hgr.out; omega))
set_option maxHeartbeats 4000000 in
set_option maxRecDepth 100000 in
theorem deliver_ok (N base : Nat) (g : Option Nat) (ss : List ByteArray) (i : Nat) (s : ByteArray) (hs : ss[i]? = some s) (hsz : s.size ≤ 281474976710656) (hn : ss.length ≤ 1099511627776) (w : World) (h : NetAt w N base g ss) :
    Calls Try.prog 22 #[.pointer (some ⟨N, 0, none⟩), .int .i64 i] w fun e w' => ∃ A cap, e = .returned (.tuple #[.agg ((decM s).vs (.slice A (decM s).list.length cap)).toArray, .int .i64 (decC s)]) ∧ NetAt w' N base g (ss.eraseIdx i) ∧
      OwnEnts w w' A cap (decM s).list ∧ Keeps (fun k => k = N ∨ some k = g) w w' := by
  have hil : i < ss.length := (List.getElem?_eq_some_iff.1 hs).1
  have h1 : ¬ ((ss.length : Int) ≤ (i : Int)) := by omega
  have h3 : (i : Int) < (ss.length : Int) := by omega
  have h4 : (ss.length : Int) ≤ 1099511627776 := by omega
  have HD := Lib.hid (fun w => decode_any s hsz w)
  unfold DecPost at HD
  generalize decM s = m at *
  generalize decC s = cc at *
  have HN := Lib.hid h
  obtain ⟨A, c, hb, hown, hA⟩ := h
  have Hc := Lib.hid (hb.cell 0 rfl)
  have HM := Lib.hid (fun w hc => may_ok N ss.length c A i (by omega) h1 w hc)
  obtain ⟨gr, cur, rfl, hcur⟩ : ∃ gr cur, A = some ⟨gr, 0, none⟩ ∧ w.heap[gr]? = some (.cells cur 9 (0, 0)) := by
    rcases slice_cur hown with ⟨_, h, _⟩ | h
    · omega
    · exact h
  have Hci : Hid (w.cell? ⟨gr, i, none⟩ = some (.string s)) := Lib.hid (by
    rw [World.ownsRow.cellAt hown i (by omega)]
    simp [hs])
  obtain rfl : g = some gr := hA.symm
  have hlt := hb.lt
  have hltg : gr < w.heap.size := (Array.getElem?_eq_some_iff.1 hcur).1
  have HO := Lib.hid hown; have Hs := Lib.hid hs; have Hil := Lib.hid hil
  clear h1 hs hown hb hcur hsz hil
  go_enter Try.func22, Try.ntmps22
  go_wp2_with (first
    | ((with_reducible refine gate_dst (N := 4) rfl ?_); refine box_event rfl (N := 4) rfl (run_allocM _ _ rfl _) ?_; intro gr0 hgr0 v1 hbox hbel; have Br := Lib.hid (show Blk v1 gr0 36 zcs from hbox); have BLgr0 := Lib.hid hbel; have Hgr0 := Lib.hid hgr0; clear hbox hbel hgr0; have c0 := Lib.hid ((BLgr0.out.cell (p := ⟨N, 0, none⟩) hlt).trans Hc.out); have ci := (BLgr0.out.cell (p := ⟨gr, i, none⟩) hltg).trans Hci.out; have c1 := c0.out)
    | (go_at_call 45; refine (HM.out _ c0.out).mono ?_; rintro e w' ⟨rfl, rfl⟩))
  refine (HD.out v1).mono ?_
  rintro e v2 ⟨A, cp, rfl, ho, hb⟩
  have K2 := Lib.hid (BLgr0.out.trans (hb.mono BLgr0.out.size))
  have R2 := Lib.hid (Br.out.below hb)
  have E2 := Lib.hid ho
  have Z2 := Lib.hid BLgr0.out.size
  have T2 := Lib.hid (MsgAt.of m A cp)
  generalize hx : m.vs (.slice A m.list.length cp) = x at *
  have Hx := Lib.hid hx
  clear hx hb ho c0 ci c1 Br BLgr0 HM HD
  go_wp2_with (first
    | ((with_reducible refine gate_dst (N := 7) rfl ?_); refine box_event rfl (N := 7) rfl (run_allocM _ _ rfl _) ?_; intro g7 hg7 v3 hbox hbel; have Bg7 := Lib.hid (show Blk v3 g7 36 zcs from hbox); have BLg7 := Lib.hid hbel; have Hg7 := Lib.hid hg7; clear hbox hbel hg7)
    | ((with_reducible refine gate_store (t := 36) (p := 7) rfl ?_); refine wpList_store_mid rfl 36 _ _ rfl g7 0 x.toArray rfl rfl ?ht ?hi ?h1 ?_; (case ht => exact Bg7.out.there _ (by rw [List.size_toArray, T2.out.len]; exact Nat.le_refl 33)); (case hi => rw [List.size_toArray, T2.out.len]; exact infoMsg); (case h1 => exact all_oneCell_toArray T2.out.one); have B2g7 := Lib.hid (Bg7.out.setAll x (by rw [T2.out.len]; rfl)); have Kg7 := Lib.hid (Keeps.setCells (S := fun k => k = g7) x 0 v3 (Keeps.refl _ _) (fun _ => rfl)); change wpList _ _ _ _ _ (v3.setCells g7 0 x); generalize v3.setCells g7 0 x = v4 at B2g7 Kg7 ⊢; have BMg7 := Lib.hid (BLg7.out.trans (Kg7.out.below BLg7.out.size (fun k hk => by show ¬ k = g7; have := Hg7.out; omega))); clear Bg7 BLg7 Kg7 Hg7; have K4 := Lib.hid (K2.out.trans (BMg7.out.mono K2.out.size)); have R4 := Lib.hid (R2.out.below BMg7.out); have E4 := Lib.hid (E2.out.below' BMg7.out); have N4 := Lib.hid (HN.out.below K4.out); have c4 := (K4.out.cell (p := ⟨N, 0, none⟩) hlt).trans Hc.out; have O4 := Lib.hid (ownsRow_keeps HO.out (Keeps.of_below_all (S := fun _ => False) K4.out) (fun _ _ => id)); clear R2 E2 BMg7))
  refine (delete_own base gr c i ss Hil.out v4 O4.out).mono ?_
  rintro e v5 ⟨rfl, ho5, hk5⟩
  have P4 := N4.out.apart B2g7.out (by decide) (by decide)
  have Q4 := N4.out.apart R4.out (by decide) (by decide)
  have hg7 : g7 ≠ gr := fun e => P4.2 (by rw [e])
  have hg0 : gr0 ≠ gr := fun e => Q4.2 (by rw [e])
  have B5 := B2g7.out.kept hk5 hg7
  have R5 := R4.out.kept hk5 hg0
  have E5 := E4.out.keeps hk5 (fun b h e => E4.out.apartRow O4.out b h (by rw [e]; rfl))
  have hNg : N ≠ gr := fun e => N4.out.ne (by rw [e])
  have BN5 : Blk v5 N 103 [.slice (some ⟨gr, 0, none⟩) ss.length c] := by
    obtain ⟨A', c', q1, _, _⟩ := N4.out
    have q2 : Value.slice A' ss.length c' = .slice (some ⟨gr, 0, none⟩) ss.length c := by
      have := (q1.cell 0 rfl).symm.trans c4
      simpa using this
    rw [q2] at q1
    exact q1.kept hk5 hNg
  have BN6 := BN5.set 0 (.slice (some ⟨gr, 0, none⟩) (ss.length - 1) c)
  have K6 : Keeps (fun k => k = N) v5 (v5.setCell ⟨N, 0, none⟩ (.slice (some ⟨gr, 0, none⟩) (ss.length - 1) c)) := (Keeps.refl (fun k => k = N) v5).setCell (a := ⟨N, 0, none⟩) (fun _ => rfl) _
  have B6 := Lib.hid (B5.kept K6 (fun e => P4.1 e.symm))
  have R6 := Lib.hid (R5.kept K6 (fun e => Q4.1 e.symm))
  have E6 := Lib.hid (E5.keeps K6 (fun b h e => E5.apart BN5 (by decide) (by rw [h, show b = N from e])))
  have hel : (ss.eraseIdx i).length = ss.length - 1 := List.length_eraseIdx_of_lt Hil.out
  have N6 : Hid (NetAt (v5.setCell ⟨N, 0, none⟩ (.slice (some ⟨gr, 0, none⟩) (ss.length - 1) c)) N base (some gr) (ss.eraseIdx i)) := Lib.hid (by
    refine ⟨some ⟨gr, 0, none⟩, c, ?_, ?_, rfl⟩
    · rw [hel]; exact BN6
    · rw [hel]
      exact ownsRow_keeps ho5 K6 (fun b e => by
        have : b = gr := by simpa [Value.ownBlock] using e.symm
        subst this
        exact fun e => hNg e.symm))
  have c5 := BN5.cell 0 rfl
  have f5 := BN5.frozen 0
  have KK := Lib.hid (((Keeps.of_below_all (S := fun k => k = N ∨ some k = some gr) K4.out).trans (hk5.mono (S' := fun k => k = N ∨ some k = some gr) (fun k _ h => .inr (by rw [h]))) (fun _ _ h => h)).trans (K6.mono (S' := fun k => k = N ∨ some k = some gr) (fun k _ h => .inl h)) (fun _ _ h => h))
  clear ho5 hk5 P4 Q4 hg7 hg0 B5 R5 E5 hNg BN5 BN6 K6 hel N4 c4 O4 B2g7 R4 E4 K4
  go_wp2_with (first
    | ((with_reducible refine gate_dst (N := 38) rfl ?_); refine wpList_load_mid rfl 36 _ rfl g7 0 rfl x _ ?hc Try.underlying36 rfl ?hi ?_; (case hc => exact B6.out.range); (case hi => rw [T2.out.len]; exact infoMsg))
    | ((with_reducible refine gate_store (t := 36) (p := 4) rfl ?_); refine wpList_store_mid rfl 36 _ _ rfl gr0 0 x.toArray rfl rfl ?ht ?hi ?h1 ?_; (case ht => exact R6.out.there _ (by rw [List.size_toArray, T2.out.len]; exact Nat.le_refl 33)); (case hi => rw [List.size_toArray, T2.out.len]; exact infoMsg); (case h1 => exact all_oneCell_toArray T2.out.one); have B2gr0 := Lib.hid (R6.out.setAll x (by rw [T2.out.len]; rfl)); have Kgr0 := Lib.hid (Keeps.setCells (S := fun k => k = gr0) x 0 (v5.setCell ⟨N, 0, none⟩ (.slice (some ⟨gr, 0, none⟩) (ss.length - 1) c)) (Keeps.refl _ _) (fun _ => rfl)); change wpList _ _ _ _ _ ((v5.setCell ⟨N, 0, none⟩ (.slice (some ⟨gr, 0, none⟩) (ss.length - 1) c)).setCells gr0 0 x); generalize (v5.setCell ⟨N, 0, none⟩ (.slice (some ⟨gr, 0, none⟩) (ss.length - 1) c)).setCells gr0 0 x = v7 at B2gr0 Kgr0 ⊢))
  have P6 := N6.out.apart R6.out (by decide) (by decide)
  refine bodyPost_ret (v := .tuple #[.agg x.toArray, .int .i64 cc]) (results_cell_tmp Try.results22 (by rfl) (by rfl) (load_msg B2gr0.out T2.out.len)) rfl ⟨A, cp, by rw [Hx.out], N6.out.kept Kgr0.out P6.1 (fun b e h => P6.2 (by rw [e, h])), ?_, ?_⟩
  · rcases E6.out.keeps Kgr0.out (fun b h e => E6.out.apart R6.out (by decide) (by rw [h, show b = gr0 from e])) with h | ⟨L, h1, h2⟩
    · exact .inl h
    · exact .inr ⟨L, Nat.le_trans Z2.out h1, h2⟩
  · exact KK.out.trans Kgr0.out (fun k h1 h2 => by have := Hgr0.out; omega)

set_option maxHeartbeats 4000000 in
set_option maxRecDepth 100000 in
theorem lose_low (N n c : Nat) (A : Option Addr) (i : Int) (h : i < 0) (w : World) (hc : w.cell? ⟨N, 0, none⟩ = some (.slice A n c)) :
    Calls Try.prog 24 #[.pointer (some ⟨N, 0, none⟩), .int .i64 i] w fun e w' => e = .returned (.int .i64 2601) ∧ Below w.heap.size w w' := by
  have HM := Lib.hid (deliver_low N n c A i h w hc)
  clear h hc
  go_enter Try.func24, Try.ntmps24
  go_wp2_with fail
  refine HM.out.mono ?_
  rintro e v1 ⟨rfl, hb⟩
  have KB := Lib.hid hb
  clear hb
  go_wp2_with (first
    | ((with_reducible refine gate_dst (N := 5) rfl ?_); refine box_event rfl (N := 5) rfl (run_allocM _ _ rfl _) ?_; intro g5 hg5 v2 hbox hbel; have B5 := Lib.hid (show Blk v2 g5 36 zcs from hbox); have BLg5 := Lib.hid hbel; have Hg5 := Lib.hid hg5; clear hbox hbel hg5)
    | ((with_reducible refine gate_store (t := 36) (p := 5) rfl ?_); refine wpList_store_mid rfl 36 _ _ rfl g5 0 zcs.toArray rfl rfl ?ht ?hi ?h1 ?_; (case ht => exact B5.out.there 33 (Nat.le_refl 33)); (case hi => exact infoMsg); (case h1 => exact all_oneCell_toArray zcs_one); have B2g5 := Lib.hid (B5.out.setAll zcs rfl); have Kg5 := Lib.hid (Keeps.setCells (S := fun k => k = g5) zcs 0 v2 (Keeps.refl _ _) (fun _ => rfl)); change wpList _ _ _ _ _ (v2.setCells g5 0 zcs); generalize v2.setCells g5 0 zcs = v3 at B2g5 Kg5 ⊢))
  go_ret
  refine ⟨rfl, KB.out.trans ((BLg5.out.trans (Kg5.out.below BLg5.out.size (fun k hk => by show ¬ k = g5; have := Hg5.out; omega))).mono KB.out.size)⟩
set_option maxHeartbeats 4000000 in
set_option maxRecDepth 100000 in
theorem lose_high (N n c : Nat) (A : Option Addr) (i : Int) (h : (n : Int) ≤ i) (w : World) (hc : w.cell? ⟨N, 0, none⟩ = some (.slice A n c)) :
    Calls Try.prog 24 #[.pointer (some ⟨N, 0, none⟩), .int .i64 i] w fun e w' => e = .returned (.int .i64 2601) ∧ Below w.heap.size w w' := by
  have HM := Lib.hid (deliver_high N n c A i h w hc)
  clear h hc
  go_enter Try.func24, Try.ntmps24
  go_wp2_with fail
  refine HM.out.mono ?_
  rintro e v1 ⟨rfl, hb⟩
  have KB := Lib.hid hb
  clear hb
  go_wp2_with (first
    | ((with_reducible refine gate_dst (N := 5) rfl ?_); refine box_event rfl (N := 5) rfl (run_allocM _ _ rfl _) ?_; intro g5 hg5 v2 hbox hbel; have B5 := Lib.hid (show Blk v2 g5 36 zcs from hbox); have BLg5 := Lib.hid hbel; have Hg5 := Lib.hid hg5; clear hbox hbel hg5)
    | ((with_reducible refine gate_store (t := 36) (p := 5) rfl ?_); refine wpList_store_mid rfl 36 _ _ rfl g5 0 zcs.toArray rfl rfl ?ht ?hi ?h1 ?_; (case ht => exact B5.out.there 33 (Nat.le_refl 33)); (case hi => exact infoMsg); (case h1 => exact all_oneCell_toArray zcs_one); have B2g5 := Lib.hid (B5.out.setAll zcs rfl); have Kg5 := Lib.hid (Keeps.setCells (S := fun k => k = g5) zcs 0 v2 (Keeps.refl _ _) (fun _ => rfl)); change wpList _ _ _ _ _ (v2.setCells g5 0 zcs); generalize v2.setCells g5 0 zcs = v3 at B2g5 Kg5 ⊢))
  go_ret
  refine ⟨rfl, KB.out.trans ((BLg5.out.trans (Kg5.out.below BLg5.out.size (fun k hk => by show ¬ k = g5; have := Hg5.out; omega))).mono KB.out.size)⟩
set_option maxHeartbeats 4000000 in
set_option maxRecDepth 100000 in
theorem lose_ok (N base : Nat) (g : Option Nat) (ss : List ByteArray) (i : Nat) (s : ByteArray) (hs : ss[i]? = some s) (hsz : s.size ≤ 281474976710656) (hn : ss.length ≤ 1099511627776) (w : World) (h : NetAt w N base g ss) :
    Calls Try.prog 24 #[.pointer (some ⟨N, 0, none⟩), .int .i64 i] w fun e w' => e = .returned (.int .i64 (decC s)) ∧ NetAt w' N base g (ss.eraseIdx i) ∧ Keeps (fun k => k = N ∨ some k = g) w w' := by
  have HM := Lib.hid (deliver_ok N base g ss i s hs hsz hn w h)
  generalize decM s = m at *
  generalize decC s = cc at *
  clear hs hsz hn h
  go_enter Try.func24, Try.ntmps24
  go_wp2_with fail
  refine HM.out.mono ?_
  rintro e v1 ⟨A, cp, rfl, hn1, _, hk⟩
  have N1 := Lib.hid hn1
  have K1 := Lib.hid hk
  have T1 := Lib.hid (MsgAt.of m A cp)
  generalize m.vs (.slice A m.list.length cp) = x at *
  clear hn1 hk HM
  go_wp2_with (first
    | ((with_reducible refine gate_dst (N := 5) rfl ?_); refine box_event rfl (N := 5) rfl (run_allocM _ _ rfl _) ?_; intro g5 hg5 v2 hbox hbel; have Bg5 := Lib.hid (show Blk v2 g5 36 zcs from hbox); have BLg5 := Lib.hid hbel; have Hg5 := Lib.hid hg5; clear hbox hbel hg5)
    | ((with_reducible refine gate_store (t := 36) (p := 5) rfl ?_); refine wpList_store_mid rfl 36 _ _ rfl g5 0 x.toArray rfl rfl ?ht ?hi ?h1 ?_; (case ht => exact Bg5.out.there _ (by rw [List.size_toArray, T1.out.len]; exact Nat.le_refl 33)); (case hi => rw [List.size_toArray, T1.out.len]; exact infoMsg); (case h1 => exact all_oneCell_toArray T1.out.one); have B2g5 := Lib.hid (Bg5.out.setAll x (by rw [T1.out.len]; rfl)); have Kg5 := Lib.hid (Keeps.setCells (S := fun k => k = g5) x 0 v2 (Keeps.refl _ _) (fun _ => rfl)); change wpList _ _ _ _ _ (v2.setCells g5 0 x); generalize v2.setCells g5 0 x = v3 at B2g5 Kg5 ⊢; have BMg5 := Lib.hid (BLg5.out.trans (Kg5.out.below BLg5.out.size (fun k hk => by show ¬ k = g5; have := Hg5.out; omega))); clear Bg5 BLg5 Kg5 Hg5))
  go_ret
  exact ⟨rfl, N1.out.below BMg5.out, K1.out.trans (Keeps.of_below_all (S := fun k => k = N ∨ some k = g) BMg5.out) (fun _ _ h => h)⟩

end Go.Proofs.Ytibcadfpengacaa

-- NetL
set_option linter.unusedVariables false
set_option linter.unusedSimpArgs false
namespace Go.Proofs.Ytibcadfpengacaa
open Go.RowKit Go.Lib Go.Proofs.YtibcadfpengacaaW.PrintWords Go.Proofs.YtibcadfpengacaaW.PrintMore Go.Proofs.YtibcadfpengacaaW.PrintLast

theorem foldl_sets (l : List Value) : ∀ (k : Nat) (cs : Array Value) (i : Nat), ((l.zipIdx k).foldl (fun (cs : Array Value) (p : Value × Nat) => cs.setIfInBounds p.2 p.1) cs)[i]? = if k ≤ i ∧ i < k + l.length ∧ i < cs.size then l[i - k]? else cs[i]? := by
  induction l with
  | nil => intro k cs i; simp; omega
  | cons v l ih =>
    intro k cs i
    rw [List.zipIdx_cons, List.foldl_cons, ih (k + 1)]
    simp only [Array.size_setIfInBounds, List.length_cons]
    by_cases h : k + 1 ≤ i ∧ i < k + 1 + l.length ∧ i < cs.size
    · rw [if_pos h, if_pos (by omega), show i - k = (i - (k + 1)) + 1 by omega, List.getElem?_cons_succ]
    · rw [if_neg h, Array.getElem?_setIfInBounds]
      by_cases hk : k = i
      · subst hk
        by_cases hs : k < cs.size
        · rw [if_pos rfl, if_pos hs, if_pos (by omega)]; simp
        · rw [if_pos rfl, if_neg hs, if_neg (by omega), Array.getElem?_eq_none (by omega)]
      · rw [if_neg hk, if_neg (by omega)]
theorem fill_one (x : List Value) (z : Array Value) (size : Nat) (hx : x.length = size) (hz : z.size = size) : Instr.fill (fun i => some (i * size, size)) z [(0, Value.agg x.toArray)] = some x.toArray := by
  unfold Instr.fill
  have hc : (Value.agg x.toArray).cells = x.toArray := rfl
  simp only [hc, List.size_toArray, hx, hz, Nat.zero_mul, Nat.zero_add]
  rw [if_neg (by simp)]
  unfold Instr.fill
  congr 1
  apply Array.ext_getElem?
  intro i
  have h := foldl_sets x 0 z i
  rw [← Array.foldl_toList]
  have e : (x.toArray.zipIdx 0).toList = x.zipIdx 0 := by simp
  rw [e]
  refine Eq.trans ?_ (h.trans ?_)
  · congr 1
  · by_cases hi : i < size
    · rw [if_pos ⟨Nat.zero_le _, by omega, by omega⟩]; simp
    · rw [if_neg (by omega), Array.getElem?_eq_none (by omega), Array.getElem?_eq_none (by simp; omega)]
theorem infoMs : (Try.prog.info? 36).map (fun i => (i.zero, i.size, i.bytes)) = some (some (.agg zcs.toArray), 33, 312) := by kernel_rfl
/-- A slice literal of one struct. -/
theorem run_buildOneM (ev : Operand → Value) (o : Oper) (s : Operand) (x : List Value) (hx : x.length = 33) (ho : o.op = .buildSlice 59 1 #[(0, s)]) (hs : ev s = .agg x.toArray) (w : World) :
    (execOp ev o).run Try.prog w = .ok (.value (.slice (some ⟨w.heap.size, 0, none⟩) 1 1)) (w.alloc (.cells x.toArray 36)) := by
  obtain ⟨i, hi, hz0, hz1, hz2⟩ := info_parts infoMs
  have hf : Instr.fill (fun j => some (j * i.size, i.size)) ((Array.range (1 * i.size)).map ((Value.agg zcs.toArray).cells[· % (Value.agg zcs.toArray).cells.size]!)) [(0, Value.agg x.toArray)] = some x.toArray := fill_one x _ i.size (by rw [hz1]; exact hx) (by simp)
  have h := run_buildSlice (P := Try.prog) w 59 36 1 #[(0, Value.agg x.toArray)] x.toArray i (.agg zcs.toArray) Try.underlying59 hi hz0 (by rw [hz1]; decide) (by rw [hz1]; decide) hf
  unfold execOp
  rw [ho]
  simp only [List.map_toArray, List.map_cons, List.map_nil, hs]
  rw [Sem.run_bind, h]
  rfl

/-- A message in memory: its fields, where its list lies. -/
structure Qm where
  m : Msg
  A : Option Addr
  c : Nat
def Qm.cs (q : Qm) : List Value := q.m.vs (.slice q.A q.m.list.length q.c)
theorem Qm.len (q : Qm) : q.cs.length = 33 := rfl
theorem Qm.one (q : Qm) : ∀ v ∈ q.cs, v.oneCell' = true := q.m.one _ _ _
theorem Qm.at (q : Qm) : MsgAt q.cs q.m q.A q.c := MsgAt.of q.m q.A q.c
/-- Its list lies in a block of its own. -/
def EntsG (w : World) (q : Qm) : Prop := (q.A = none ∧ q.c = 0 ∧ q.m.list = []) ∨ ∃ L, q.A = some ⟨L, 0, none⟩ ∧ q.m.list.length ≤ q.c ∧ EntsB w L q.m.list
theorem EntsG.reads {w : World} {q : Qm} (h : EntsG w q) : EntsR w q.A q.m.list := by
  rcases h with ⟨h1, _, h2⟩ | ⟨L, h1, _, h2⟩
  · rw [h2]; exact fun i e he => by simp at he
  · rw [h1]; exact h2.reads
theorem EntsG.keeps {S : Nat → Prop} {w w' : World} {q : Qm} (h : EntsG w q) (k : Keeps S w w') (hn : ∀ b, q.A = some ⟨b, 0, none⟩ → ¬ S b) : EntsG w' q := by
  rcases h with h | ⟨L, h1, h2, h3⟩
  · exact .inl h
  · exact .inr ⟨L, h1, h2, h3.kept k (hn L h1)⟩
theorem EntsG.below {w w' : World} {q : Qm} (h : EntsG w q) (hb : Below w.heap.size w w') : EntsG w' q := h.keeps (Keeps.of_below_all (S := fun _ => False) hb) (fun _ _ => id)
theorem EntsG.lt {w : World} {q : Qm} (h : EntsG w q) : ∀ b, q.A = some ⟨b, 0, none⟩ → b < w.heap.size := by
  intro b hb
  rcases h with ⟨h1, _⟩ | ⟨L, h1, _, h3⟩
  · rw [h1] at hb; cases hb
  · rw [h1] at hb
    injection hb with hb
    injection hb with hb _ _
    subst hb
    exact h3.lt
theorem OwnEnts.ge {w0 w : World} {A : Option Addr} {c : Nat} {es : List Ent} (h : OwnEnts w0 w A c es) : ∀ b, A = some ⟨b, 0, none⟩ → w0.heap.size ≤ b := by
  intro b hb
  rcases h with ⟨_, h2, _⟩ | ⟨L, h1, h2, _⟩
  · rw [h2] at hb; cases hb
  · rw [h2] at hb
    injection hb with hb
    injection hb with hb _ _
    subst hb
    exact h1
theorem OwnEnts.g {w0 w : World} {A : Option Addr} {c : Nat} {m : Msg} (h : OwnEnts w0 w A c m.list) : EntsG w ⟨m, A, c⟩ := by
  rcases h with ⟨h1, h2, h3⟩ | ⟨L, _, h2, h3, _, h5⟩
  · exact .inl ⟨h2, h3, h1⟩
  · exact .inr ⟨L, h2, Nat.le_of_eq h3.symm, _, h5, [], (List.append_nil _).symm⟩
theorem EntsG.apartRow {w : World} {q : Qm} (h : EntsG w q) {base : Nat} {e : TypeId} {size : Nat} {B : Option Addr} {n c : Nat} {xs : List Value} (ho : w.ownsRow base e size (.slice B n c) n xs) (b : Nat) (hA : q.A = some ⟨b, 0, none⟩) (hB : (Value.slice B n c).ownBlock = some b) (h1 : e ≠ 99 := by decide) : False := by
  rcases h with ⟨h0, _, _⟩ | ⟨L, h2, _, cs, h5, _⟩
  · rw [h0] at hA; cases hA
  · rw [h2] at hA
    injection hA with hA
    injection hA with hA _ _
    subst hA
    rcases slice_cur ho with ⟨rfl, _⟩ | ⟨g, cur, rfl, hc⟩
    · cases hB
    · have e2 : g = L := by simpa [Value.ownBlock] using hB
      subst e2
      have h6 := (show w.heap[g]? = _ from h5).symm.trans hc
      injection h6 with h6
      injection h6 with _ h7 _
      exact h1 h7.symm
theorem EntsG.apart {w : World} {q : Qm} (h : EntsG w q) {g : Nat} {t : TypeId} {cs : List Value} (hg : Blk w g t cs) (h1 : t ≠ 99) : ¬ q.A = some ⟨g, 0, none⟩ := by
  intro e
  rcases h with ⟨h0, _, _⟩ | ⟨L, h2, _, cs', h5, _⟩
  · rw [h0] at e; cases e
  · rw [h2] at e
    injection e with e
    injection e with e _ _
    subst e
    exact h5.apart hg (fun e => h1 e.symm) rfl

/-- No two lie at one place. -/
def Apart (qs : List Qm) : Prop := qs.Pairwise (fun p q => ∀ b, p.A = some ⟨b, 0, none⟩ → q.A ≠ some ⟨b, 0, none⟩)
/-- A slice value that owns a row of messages, made since base. -/
structure MsRow (w : World) (base : Nat) (v : Value) (qs : List Qm) : Prop where
  own : w.ownsRow base 36 33 v qs.length (qs.flatMap Qm.cs)
  ents : ∀ q ∈ qs, EntsG w q ∧ ∀ b, q.A = some ⟨b, 0, none⟩ → base ≤ b
  apart : Apart qs
theorem MsRow.nil (w : World) (base : Nat) : MsRow w base (.slice none 0 0) [] := ⟨World.ownsRow_nil _ _ _ _, (fun q h => by cases h), List.Pairwise.nil⟩
theorem MsRow.keeps {S : Nat → Prop} {w w' : World} {base : Nat} {v : Value} {qs : List Qm} (h : MsRow w base v qs) (k : Keeps S w w') (h1 : ∀ b, v.ownBlock = some b → ¬ S b) (h2 : ∀ q ∈ qs, ∀ b, q.A = some ⟨b, 0, none⟩ → ¬ S b) : MsRow w' base v qs :=
  ⟨ownsRow_keeps h.own k h1, fun q hq => ⟨(h.ents q hq).1.keeps k (h2 q hq), (h.ents q hq).2⟩, h.apart⟩
theorem MsRow.below {w w' : World} {base : Nat} {v : Value} {qs : List Qm} (h : MsRow w base v qs) (hb : Below w.heap.size w w') : MsRow w' base v qs := h.keeps (Keeps.of_below_all (S := fun _ => False) hb) (fun _ _ => id) (fun _ _ _ _ => id)
/-- Behind an append of one more. -/
theorem MsRow.append {w w1 : World} {base : Nat} {A : Option Addr} {n c : Nat} {qs : List Qm} (hn : qs.length = n) (h : MsRow w base (.slice A n c) qs) (q : Qm) (hq : EntsG w q) (hqb : ∀ b, q.A = some ⟨b, 0, none⟩ → base ≤ b) (hqn : ∀ p ∈ qs, ∀ b, p.A = some ⟨b, 0, none⟩ → q.A ≠ some ⟨b, 0, none⟩) {k cap : Nat}
    (ho : w1.ownsRow base 36 33 (.slice (some ⟨k, 0, none⟩) (n + 1) cap) (n + 1) (qs.flatMap Qm.cs ++ q.cs)) (hg : w.grownBy w1 (Value.slice A n c).ownBlock) : MsRow w1 base (.slice (some ⟨k, 0, none⟩) (n + 1) cap) (qs ++ [q]) := by
  subst hn
  have hk : Keeps (fun b => (Value.slice A qs.length c).ownBlock = some b) w w1 := Keeps.of_grown hg (fun b hb _ => hb)
  refine ⟨?_, ?_, ?_⟩
  · rw [List.flatMap_append, List.length_append]
    simpa using ho
  · intro p hp
    rcases List.mem_append.1 hp with hp | hp
    · exact ⟨(h.ents p hp).1.keeps hk (fun b hb e => (h.ents p hp).1.apartRow h.own b hb e), (h.ents p hp).2⟩
    · rw [List.mem_singleton] at hp
      subst hp
      exact ⟨hq.keeps hk (fun b hb e => hq.apartRow h.own b hb e), hqb⟩
  · refine List.pairwise_append.2 ⟨h.apart, List.pairwise_singleton _ _, fun p hp p' hp' => ?_⟩
    rw [List.mem_singleton] at hp'
    subst hp'
    exact hqn p hp

def NListPost (ss : List ByteArray) (w : World) (e : Ending) (w' : World) : Prop :=
  ∃ A c qs, e = .returned (.slice A ss.length c) ∧ MsRow w' w.heap.size (.slice A ss.length c) qs ∧ qs.map Qm.m = ss.map decM ∧ Below w.heap.size w w'
theorem dec_row (ss : List ByteArray) (k : Nat) (h : k < ss.length) : (ss.take (k + 1)).map decM = (ss.take k).map decM ++ [decM ss[k]] := by
  rw [List.take_succ_eq_append_getElem h, List.map_append]
  rfl

set_option maxHeartbeats 4000000 in
set_option maxRecDepth 100000 in
theorem list_any (N base : Nat) (g : Option Nat) (ss : List ByteArray) (hn : ss.length ≤ 1048576) (hsz : ∀ s ∈ ss, s.size ≤ 281474976710656) (w : World) (h : NetAt w N base g ss) :
    Calls Try.prog 27 #[.pointer (some ⟨N, 0, none⟩)] w (NListPost ss w) := by
  obtain ⟨i0, hi0, hz0, hz1, hz2⟩ := info_parts infoMs
  obtain ⟨A, c, hb, hown, hA⟩ := h
  have hc := hb.cell 0 rfl
  have HO := Lib.hid hown
  have HK : Hid (∀ k : Nat, k < ss.length → ∃ gr s m cc, A = some ⟨gr, 0, none⟩ ∧ w.cell? ⟨gr, k, none⟩ = some (.string s) ∧ gr < w.heap.size ∧ (∀ w, Calls Try.prog 14 #[.string s] w fun e w' => ∃ A cap, e = .returned (.tuple #[.agg (m.vs (.slice A m.list.length cap)).toArray, .int .i64 cc]) ∧ OwnEnts w w' A cap m.list ∧ Below w.heap.size w w') ∧ (ss.take (k + 1)).map decM = (ss.take k).map decM ++ [m]) := Lib.hid (fun k hk => by
    rcases slice_cur hown with ⟨_, h, _⟩ | ⟨gr, cur, rfl, h⟩
    · omega
    · refine ⟨gr, ss[k], decM ss[k], decC ss[k], rfl, ?_, (Array.getElem?_eq_some_iff.1 h).1, fun w => decode_any ss[k] (hsz _ (List.getElem_mem hk)) w, dec_row ss k hk⟩
      rw [World.ownsRow.cellAt hown k (by omega)]
      simp [hk])
  have HT : Hid ((ss.take ss.length).map decM = ss.map decM) := Lib.hid (by rw [List.take_length])
  have HT0 : Hid ((ss.take 0).map decM = []) := Lib.hid (by rw [List.take_zero]; rfl)
  have HS : Hid (ss.length = ss.length) := Lib.hid rfl
  clear hb hown hA hsz
  unfold NListPost
  generalize hnn : ss.length = n at *
  replace HS : Hid (ss.length = n) := Lib.hid hnn
  clear hnn
  go_enter Try.func27, Try.ntmps27
  go_wp2
  go_loopw [3, 15] (fun v i wr => ∃ k A c qs, k ≤ n ∧ i = .int .i64 (k : Nat) ∧ v = .slice A k c ∧ MsRow wr w.heap.size (.slice A k c) qs ∧ qs.map Qm.m = (ss.take k).map decM ∧ Below w.heap.size w wr) (fun _ i _ => n - (RowKit.intOf i).toNat)
  case atStart => exact ⟨0, none, 0, [], Nat.zero_le _, rfl, rfl, MsRow.nil _ _, HT0.out.symm, Below.refl _ _⟩
  case round =>
    obtain ⟨k, B, cb, qs, hk, rfl, rfl, hms, hq, hbel⟩ := hrel
    have HM := Lib.hid hms; have HQ := Lib.hid hq; have HB := Lib.hid hbel
    clear hms hq hbel
    by_cases hlt : k < n
    · obtain ⟨gr, s, m, cc, rfl, hcs, hgl, hdec, hrow⟩ := HK.out k hlt
      have cs := (HB.out.cell (p := ⟨gr, k, none⟩) hgl).trans hcs
      have HD := Lib.hid hdec; have HW := Lib.hid hrow
      clear hcs hdec hrow
      go_wp2_with fail
      refine (HD.out wr).mono ?_
      rintro e v1 ⟨A1, c1, rfl, ho, hb⟩
      have M1 := Lib.hid (HM.out.below hb)
      have B1 := Lib.hid (HB.out.trans (hb.mono HB.out.size))
      have B1a := Lib.hid hb
      have E1 := Lib.hid ho.g
      have F1 := Lib.hid (OwnEnts.ge ho)
      have L1 := Lib.hid (fun p hp b h => ((HM.out.ents p hp).1.lt b h))
      generalize hx : m.vs (.slice A1 m.list.length c1) = x at *
      have T1 : Hid (x.length = 33) := Lib.hid (by rw [← hx]; rfl)
      have O1 : Hid (∀ v ∈ x, v.oneCell' = true) := Lib.hid (by rw [← hx]; exact m.one _ _ _)
      have X1 : Hid (x = Qm.cs ⟨m, A1, c1⟩) := Lib.hid hx.symm
      have Z1 := Lib.hid HB.out.size
      have hlt2 : k + 1 ≤ maxLen := by unfold maxLen; omega
      have hby2 : (k + 1) * 312 ≤ 140737488355328 := by omega
      have hql : Hid (qs.length = k) := Lib.hid (by
        have h1 := congrArg List.length HQ.out
        simp only [List.length_map, List.length_take] at h1
        have := HS.out
        omega)
      clear hx hb ho cs HD
      go_wp2_with (first
    | ((with_reducible refine gate_dst (N := 6) rfl ?_); refine box_event rfl (N := 6) rfl (run_allocM _ _ rfl _) ?_; intro g6 hg6 v2 hbox hbel; have Bg6 := Lib.hid (show Blk v2 g6 36 zcs from hbox); have BLg6 := Lib.hid hbel; have Hg6 := Lib.hid hg6; clear hbox hbel hg6)
    | ((with_reducible refine gate_store (t := 36) (p := 6) rfl ?_); refine wpList_store_mid rfl 36 _ _ rfl g6 0 x.toArray rfl rfl ?ht ?hi ?h1 ?_; (case ht => exact Bg6.out.there _ (by rw [List.size_toArray, T1.out]; exact Nat.le_refl 33)); (case hi => rw [List.size_toArray, T1.out]; exact infoMsg); (case h1 => exact all_oneCell_toArray O1.out); have B2g6 := Lib.hid (Bg6.out.setAll x (by rw [T1.out]; rfl)); have Kg6 := Lib.hid (Keeps.setCells (S := fun k => k = g6) x 0 v2 (Keeps.refl _ _) (fun _ => rfl)); change wpList _ _ _ _ _ (v2.setCells g6 0 x); generalize v2.setCells g6 0 x = v3 at B2g6 Kg6 ⊢; have BMg6 := Lib.hid (BLg6.out.trans (Kg6.out.below BLg6.out.size (fun k hk => by show ¬ k = g6; have := Hg6.out; omega))); clear Bg6 BLg6 Kg6 Hg6; have M3 := Lib.hid (M1.out.below BMg6.out); have B3 := Lib.hid (B1.out.trans (BMg6.out.mono B1.out.size)); have E3 := Lib.hid (E1.out.below BMg6.out); have Z3 := Lib.hid (Nat.le_trans Z1.out (Nat.le_trans B1a.out.size BMg6.out.size)))
    | ((with_reducible refine gate_dst (N := 25) rfl ?_); refine wpList_load_mid rfl 36 _ rfl g6 0 rfl x _ ?hc Try.underlying36 rfl ?hi ?_; (case hc => exact B2g6.out.range); (case hi => rw [T1.out]; exact infoMsg))
        | ((with_reducible refine gate_dst (N := 26) rfl ?_); refine Kd.event_run rfl (run_buildOneM _ _ _ x T1.out rfl rfl _) ?_; have M4 := Lib.hid (M3.out.below ((Below.refl _ _).alloc (Nat.le_refl _) (.cells x.toArray 36))); have E4 := Lib.hid (E3.out.below ((Below.refl _ _).alloc (Nat.le_refl _) (.cells x.toArray 36))); have B4 := Lib.hid (B3.out.trans ((Below.refl _ _).alloc B3.out.size (.cells x.toArray 36))); have own4 := hql.out ▸ M4.out.own; have hb4 := B4.out.size)
        | (at_builtin; refine wpList_append_lies _ rfl _ _ 59 rfl w.heap.size 36 i0 _ 33 312 Try.underlying59 hi0 hz0 hz1 hz2 rfl (by decide) _ _ _ rfl own4 ⟨v3.heap.size, 0, none⟩ 1 1 x rfl T1.out (news_cells _ _ _) O1.out (by decide) hlt2 hby2 hb4 _ rfl ?_; intro k2 cap w4 hown' hgrow hat hkl; have M5 := Lib.hid (MsRow.append hql.out M4.out ⟨m, A1, c1⟩ E4.out (fun b h => Nat.le_trans Z1.out (F1.out b h)) (fun p hp b h h2 => by have h3 := L1.out p hp b h; have h4 := F1.out b h2; omega) (X1.out ▸ hown') hgrow); have B5 := Lib.hid (B4.out.trans ((Keeps.of_grown hgrow (S := fun b => (Value.slice B k cb).ownBlock = some b) (fun b hb _ => hb)).below B4.out.size (fun b hb e => by have := (M4.out.own.lt b e).1; omega))); clear hown' hgrow hat hkl own4 hb4))
      go_roundw
      case rel => exact ⟨k + 1, some ⟨k2, 0, none⟩, cap, qs ++ [⟨m, A1, c1⟩], by omega, by go_num, rfl, M5.out, by rw [List.map_append, HQ.out, HW.out]; rfl, B5.out⟩
      case measure => simp [RowKit.intOf]; omega
    · have he : k = n := by omega
      subst he
      go_wp2_with fail
      go_ret
      exact ⟨B, cb, qs, rfl, HM.out, by rw [HQ.out, ← HS.out]; exact (by rw [List.take_length]), HB.out⟩

end Go.Proofs.Ytibcadfpengacaa

-- NetR
set_option linter.unusedVariables false
set_option linter.unusedSimpArgs false
namespace Go.Proofs.Ytibcadfpengacaa
open Go.RowKit Go.Lib Go.Proofs.YtibcadfpengacaaW.PrintWords Go.Proofs.YtibcadfpengacaaW.PrintMore Go.Proofs.YtibcadfpengacaaW.PrintLast

def isM33 : Value → Bool
  | .agg cs => cs.size == 33
  | _ => false
def aggArr : Value → Array Value
  | .agg cs => cs
  | _ => #[]
theorem aggArr_mk (cs : Array Value) : aggArr (.agg cs) = cs := rfl
theorem isM33_mk {x : List Value} (h : x.length = 33) : isM33 (.agg x.toArray) = true := by
  unfold isM33
  simp [h]
theorem bsX (ev : Operand → Value) (d : Option Tmp) (s : Operand) (t : TypeId) (p : String) (af : Array Edge) (g : Option (Nat × Bool)) (w : World) (h : isM33 (ev s) = true) :
    (execOp ev { dst := d, op := .buildSlice 59 1 #[(0, s)], type := t, pos := p, after := af, guard := g }).run Try.prog w = .ok (.value (.slice (some ⟨w.heap.size, 0, none⟩) 1 1)) (w.alloc (.cells (aggArr (ev s)) 36)) := by
  unfold isM33 at h
  split at h
  · rename_i cs he
    have := run_buildOneM ev { dst := d, op := .buildSlice 59 1 #[(0, s)], type := t, pos := p, after := af, guard := g } s cs.toList (by simpa using h) rfl (by rw [he]) w
    rw [he]
    exact this
  · cases h
attribute [local go_sem ↓] ldX bsX
attribute [local go_sem] ptrBlk_mk isHead_mk aggArr_mk

/-- The document's net at R: its messages; their row lies in block g. -/
structure RefN (w : World) (R base : Nat) (A : Option Addr) (c : Nat) (qs : List Qm) : Prop where
  b : Blk w R 61 [.slice A qs.length c]
  own : w.ownsRow base 36 33 (.slice A qs.length c) qs.length (qs.flatMap Qm.cs)
  ents : ∀ q ∈ qs, EntsG w q ∧ ∀ b, q.A = some ⟨b, 0, none⟩ → base ≤ b
theorem Blk.rowApart {w : World} {N : Nat} {t : TypeId} {cs : List Value} (hb : Blk w N t cs) {base : Nat} {e : TypeId} {size : Nat} {A : Option Addr} {n c : Nat} {xs : List Value} (ho : w.ownsRow base e size (.slice A n c) n xs) (h1 : t ≠ e) : ∀ b, (Value.slice A n c).ownBlock = some b → b ≠ N := by
  intro b e2 e3
  subst e3
  rcases slice_cur ho with ⟨rfl, _⟩ | ⟨g, cur, rfl, hc⟩
  · cases e2
  · have e3 : g = b := by simpa [Value.ownBlock] using e2
    subst e3
    have h6 := (show w.heap[g]? = _ from hb).symm.trans hc
    injection h6 with h6
    injection h6 with _ h7 _
    exact h1 h7
theorem RefN.ne {w : World} {R base : Nat} {A : Option Addr} {c : Nat} {qs : List Qm} (h : RefN w R base A c qs) : ∀ b, (Value.slice A qs.length c).ownBlock = some b → b ≠ R := h.b.rowApart h.own (by decide)
theorem RefN.keeps {S : Nat → Prop} {w w' : World} {R base : Nat} {A : Option Addr} {c : Nat} {qs : List Qm} (h : RefN w R base A c qs) (k : Keeps S w w') (hR : ¬ S R) (h1 : ∀ b, (Value.slice A qs.length c).ownBlock = some b → ¬ S b) (h2 : ∀ q ∈ qs, ∀ b, q.A = some ⟨b, 0, none⟩ → ¬ S b) : RefN w' R base A c qs :=
  ⟨h.b.kept k hR, ownsRow_keeps h.own k h1, fun q hq => ⟨(h.ents q hq).1.keeps k (h2 q hq), (h.ents q hq).2⟩⟩
theorem RefN.below {w w' : World} {R base : Nat} {A : Option Addr} {c : Nat} {qs : List Qm} (h : RefN w R base A c qs) (hb : Below w.heap.size w w') : RefN w' R base A c qs := h.keeps (Keeps.of_below_all (S := fun _ => False) hb) id (fun _ _ => id) (fun _ _ _ _ => id)
theorem RefN.new (w : World) : RefN (w.alloc (.cells #[.slice none 0 0] 61)) w.heap.size w.heap.size none 0 [] :=
  ⟨Blk.new w 61 [.slice none 0 0], World.ownsRow_nil _ _ _ _, fun q h => by cases h⟩
/-- Behind an append and the store of the slice. -/
theorem RefN.appended {w w1 : World} {R base : Nat} {A : Option Addr} {c n : Nat} {qs : List Qm} (hn : qs.length = n) (h : RefN w R base A c qs) (q : Qm) (hq : EntsG w q) (hqb : ∀ b, q.A = some ⟨b, 0, none⟩ → base ≤ b) {k cap : Nat}
    (ho : w1.ownsRow base 36 33 (.slice (some ⟨k, 0, none⟩) (n + 1) cap) (n + 1) (qs.flatMap Qm.cs ++ q.cs)) (hg : w.grownBy w1 (Value.slice A n c).ownBlock) : RefN (w1.setCell ⟨R, 0, none⟩ (.slice (some ⟨k, 0, none⟩) (n + 1) cap)) R base (some ⟨k, 0, none⟩) cap (qs ++ [q]) := by
  subst hn
  have hk : Keeps (fun b => (Value.slice A qs.length c).ownBlock = some b) w w1 := Keeps.of_grown hg (fun b hb _ => hb)
  have hb1 : Blk w1 R 61 [.slice A qs.length c] := h.b.kept hk (fun e => h.ne R e rfl)
  have hkR := hb1.rowApart ho (by decide) k rfl
  have hel : (qs ++ [q]).length = qs.length + 1 := by simp
  have kS : Keeps (fun b => b = R) w1 (w1.setCell ⟨R, 0, none⟩ (.slice (some ⟨k, 0, none⟩) (qs.length + 1) cap)) := (Keeps.refl (fun b => b = R) w1).setCell (a := ⟨R, 0, none⟩) (fun _ => rfl) _
  refine ⟨by rw [hel]; exact hb1.set 0 _, ?_, ?_⟩
  · rw [hel, List.flatMap_append]
    have e : ([q] : List Qm).flatMap Qm.cs = q.cs := by simp
    rw [e]
    exact ownsRow_keeps ho kS (fun b e => by
      have : b = k := by simpa [Value.ownBlock] using e.symm
      subst this
      exact hkR)
  · have step : ∀ p : Qm, EntsG w p → EntsG (w1.setCell ⟨R, 0, none⟩ (.slice (some ⟨k, 0, none⟩) (qs.length + 1) cap)) p := fun p hp => by
      have h1 := hp.keeps hk (fun b hb e => hp.apartRow h.own b hb e)
      exact h1.keeps kS (fun b hb e => h1.apart hb1 (by decide) (by rw [hb, show b = R from e]))
    intro p hp
    rcases List.mem_append.1 hp with hp | hp
    · exact ⟨step p (h.ents p hp).1, (h.ents p hp).2⟩
    · rw [List.mem_singleton] at hp
      subst hp
      exact ⟨step p hq, hqb⟩
/-- One operation of a region. -/
theorem step_wp {P : Program} {ops : Array Oper} {o : Oper} {a : Act} {w : World} {K : Act → World → Prop} {Q : Exit → Act → World → Prop} {E : Prop} (hgd : o.guard = none) (h : Oper.wp P o a w K Q) : if Region.wanted o (yielded ops a.tmps) = true then Oper.wp P o a w K Q else E := by
  have hw : Region.wanted o (yielded ops a.tmps) = true := by simp [Region.wanted, hgd]
  rw [if_pos hw]
  exact h
set_option maxHeartbeats 4000000 in
set_option maxRecDepth 100000 in
theorem rsend_full (R n c : Nat) (A : Option Addr) (x : List Value) (hxl : x.length = 33) (hn : 1024 ≤ n) (w : World) (hc : w.cell? ⟨R, 0, none⟩ = some (.slice A n c)) :
    Calls Try.prog 21 #[.pointer (some ⟨R, 0, none⟩), .agg x.toArray] w fun e w' => e = .returned (.int .i64 2600) ∧ Below w.heap.size w w' := by
  have hi : (1024 : Int) ≤ (n : Int) := by omega
  have Hc := Lib.hid hc
  have hlt := World.block_lt_of_cell? w _ hc
  clear hc
  go_enter Try.func21, Try.ntmps21
  go_wp2_with (first
    | ((with_reducible refine gate_dst (N := 3) rfl ?_); refine box_event rfl (N := 3) rfl (run_box _ _ _ 36 _ x.toArray rfl rfl _) ?_; intro g3 hg3 v1 hbox hbel; have B3 := Lib.hid (show Blk v1 g3 36 x from hbox); have BLg3 := Lib.hid hbel; have Hg3 := Lib.hid hg3; clear hbox hbel hg3; have c0 := (BLg3.out.cell (p := ⟨R, 0, none⟩) hlt).trans Hc.out))
  go_ret
  exact ⟨rfl, BLg3.out⟩
set_option maxHeartbeats 4000000 in
set_option maxRecDepth 100000 in
theorem rsend_bad (R n c : Nat) (A : Option Addr) (x : List Value) (hxl : x.length = 33) (s : ByteArray) (code : Int) (P : World → Prop) (hP : ∀ w w1, Below w.heap.size w w1 → P w → P w1)
    (HE : ∀ w, P w → Calls Try.prog 10 #[.agg x.toArray] w fun e w' => e = .returned (.tuple #[.string s, .int .i64 code]) ∧ Below w.heap.size w w') (hcode : (code == 0) = false) (hn : ¬ 1024 ≤ n) (w : World) (hc : w.cell? ⟨R, 0, none⟩ = some (.slice A n c)) (hp : P w) :
    Calls Try.prog 21 #[.pointer (some ⟨R, 0, none⟩), .agg x.toArray] w fun e w' => e = .returned (.int .i64 code) ∧ Below w.heap.size w w' := by
  have hi : ¬ (1024 : Int) ≤ (n : Int) := by omega
  have hi2 : (n : Int) < 1024 := by omega
  have Hc := Lib.hid hc
  have HP := Lib.hid hP; have HE' := Lib.hid HE; have Hp := Lib.hid hp; have Hxl := Lib.hid hxl
  have hlt := World.block_lt_of_cell? w _ hc
  clear hc hP HE hp hxl
  go_enter Try.func21, Try.ntmps21
  go_wp2_with (first
    | ((with_reducible refine gate_dst (N := 3) rfl ?_); refine box_event rfl (N := 3) rfl (run_box _ _ _ 36 _ x.toArray rfl rfl _) ?_; intro g3 hg3 v1 hbox hbel; have B3 := Lib.hid (show Blk v1 g3 36 x from hbox); have BLg3 := Lib.hid hbel; have Hg3 := Lib.hid hg3; clear hbox hbel hg3; have c0 := (BLg3.out.cell (p := ⟨R, 0, none⟩) hlt).trans Hc.out; have Hp1 := Lib.hid (HP.out _ _ BLg3.out Hp.out))
    | ((with_reducible refine gate_dst (N := 14) rfl ?_); refine wpList_load_mid rfl 36 _ rfl g3 0 rfl x _ ?hc Try.underlying36 rfl ?hi ?_; (case hc => exact B3.out.range); (case hi => rw [Hxl.out]; exact infoMsg)))
  refine (HE'.out v1 Hp1.out).mono ?_
  rintro e v2 ⟨rfl, hb⟩
  have KB := Lib.hid (BLg3.out.trans (hb.mono BLg3.out.size))
  clear hb c0
  go_wp2_with fail
  go_ret
  exact ⟨rfl, KB.out⟩
set_option maxHeartbeats 4000000 in
set_option maxRecDepth 100000 in
theorem rsend_ok (R base c : Nat) (A : Option Addr) (qs : List Qm) (q : Qm) (s : ByteArray)
    (HE : ∀ w, EntsG w q → Calls Try.prog 10 #[.agg q.cs.toArray] w fun e w' => e = .returned (.tuple #[.string s, .int .i64 0]) ∧ Below w.heap.size w w') (hn : ¬ 1024 ≤ qs.length) (w : World) (h : RefN w R base A c qs) (hbase : base ≤ w.heap.size) (hq : EntsG w q) (hqb : ∀ b, q.A = some ⟨b, 0, none⟩ → base ≤ b) :
    Calls Try.prog 21 #[.pointer (some ⟨R, 0, none⟩), .agg q.cs.toArray] w fun e w' => e = .returned (.int .i64 0) ∧ ∃ k cap, RefN w' R base (some ⟨k, 0, none⟩) cap (qs ++ [q]) ∧ ((Value.slice A qs.length c).ownBlock = some k ∨ w.heap.size ≤ k) ∧ Keeps (fun k => k = R ∨ (Value.slice A qs.length c).ownBlock = some k) w w' := by
  obtain ⟨i0, hi0, hz0, hz1, hz2⟩ := info_parts infoMs
  have hi : ¬ (1024 : Int) ≤ (qs.length : Int) := by omega
  have hi2 : (qs.length : Int) < 1024 := by omega
  have Hc := Lib.hid (h.b.cell 0 rfl)
  have HN := Lib.hid h; have HE' := Lib.hid HE; have Hq := Lib.hid hq; have Hqb := Lib.hid hqb
  have hlt := h.b.lt
  have Hxl := Lib.hid q.len; have Hxo := Lib.hid q.one
  have Hn : Hid (qs.length = qs.length) := Lib.hid rfl
  clear HE hq hqb h
  obtain ⟨x, hx⟩ : ∃ x, x = q.cs := ⟨_, rfl⟩
  rw [← hx] at HE' Hxl Hxo ⊢
  have Hx := Lib.hid hx
  clear hx
  generalize hnn : qs.length = n at *
  replace Hn : Hid (qs.length = n) := Lib.hid hnn
  clear hnn
  have hlt2 : n + 1 ≤ maxLen := by unfold maxLen; omega
  have hby2 : (n + 1) * 312 ≤ 140737488355328 := by omega
  go_enter Try.func21, Try.ntmps21
  go_wp2_with (first
    | ((with_reducible refine gate_dst (N := 3) rfl ?_); refine box_event rfl (N := 3) rfl (run_box _ _ _ 36 _ x.toArray rfl rfl _) ?_; intro g3 hg3 v1 hbox hbel; have B3 := Lib.hid (show Blk v1 g3 36 x from hbox); have BLg3 := Lib.hid hbel; have Hg3 := Lib.hid hg3; clear hbox hbel hg3; have c0 := (BLg3.out.cell (p := ⟨R, 0, none⟩) hlt).trans Hc.out; have Hq1 := Lib.hid (Hq.out.below BLg3.out))
    | ((with_reducible refine gate_dst (N := 14) rfl ?_); refine wpList_load_mid rfl 36 _ rfl g3 0 rfl x _ ?hc Try.underlying36 rfl ?hi ?_; (case hc => exact B3.out.range); (case hi => rw [Hxl.out]; exact infoMsg)))
  refine (HE'.out v1 Hq1.out).mono ?_
  rintro e v2 ⟨rfl, hb⟩
  have KB := Lib.hid (BLg3.out.trans (hb.mono BLg3.out.size))
  have B4 := Lib.hid (B3.out.below hb)
  have N2 := Lib.hid (HN.out.below KB.out)
  have Q2 := Lib.hid (Hq1.out.below hb)
  have c2 := (KB.out.cell (p := ⟨R, 0, none⟩) hlt).trans Hc.out
  have Z2 := Lib.hid KB.out.size
  clear hb c0
  go_wp2_with fail
  have bal := Lib.hid ((Below.refl v2.heap.size v2).alloc (Nat.le_refl _) (.cells x.toArray 36))
  have c3 := (bal.out.cell (p := ⟨R, 0, none⟩) N2.out.b.lt).trans c2
  have ba2 := Lib.hid ((Below.refl v2.drew.heap.size v2.drew).alloc (Nat.le_refl _) (.cells x.toArray 36))
  have N3 := Lib.hid ((N2.out.below ((Below.refl _ _).drew)).below ba2.out)
  have Q3 := Lib.hid ((Q2.out.below ((Below.refl _ _).drew)).below ba2.out)
  have own3 : Hid ((v2.drew.alloc (.cells x.toArray 36)).ownsRow base 36 33 (.slice A n c) n (qs.flatMap Qm.cs)) := Lib.hid (Hn.out ▸ N3.out.own)
  have hb4 : base ≤ v2.heap.size + 1 := by have := Z2.out; omega
  have m1 := B4.out.isMsg Hxl.out
  have m2 := B4.out.val
  have m3 : msgBlk v2.drew g3 = true := m1
  have m4 : blkVal v2.drew g3 = .agg x.toArray := m2
  have m5 := isM33_mk Hxl.out
  go_region_law
    ((refine step_append_lies _ (by rfl) _ _ _ (by rfl) base 36 i0 _ 33 312 Try.underlying59 hi0 hz0 hz1 hz2 (by rfl) (by omega) (.slice A n c) n (qs.flatMap Qm.cs) (by rfl) own3.out _ 1 1 x (by rfl) Hxl.out (news_cells _ _ _) Hxo.out (by decide) hlt2 hby2 (by simp; exact hb4) (v2.heap.size + 1) (by simp) ?_; intro k cap w4 hown' hgrow hat hkl; have N4 := Lib.hid (RefN.appended Hn.out N3.out q Q3.out Hqb.out (Hx.out ▸ hown') hgrow); have HT := Lib.hid hat; have HG := Lib.hid hgrow; have b4 := N3.out.b.kept (Keeps.of_grown hgrow (S := fun b => (Value.slice A n c).ownBlock = some b) (fun b hb _ => hb)) (fun e => N3.out.ne R (Hn.out.symm ▸ e) rfl); have c4 := b4.cell 0 rfl; have f4 := b4.frozen 0; rw [Hn.out] at c4; clear hown' hgrow hat b4))
  all_goals
    go_wp2_with fail
    go_ret
    refine ⟨rfl, k, cap, N4.out, ?_, ?_⟩
    · rcases HT.out with h | h
      · exact .inl h
      · exact .inr (by have := Z2.out; omega)
    · exact ((((Keeps.of_below_all (S := fun b => b = R ∨ (Value.slice A n c).ownBlock = some b) KB.out).drew).alloc (.cells x.toArray 36)).trans (Keeps.of_grown HG.out (S := fun b => b = R ∨ (Value.slice A n c).ownBlock = some b) (fun b hb _ => .inr hb)) (fun _ _ h => h)).setCell (a := ⟨R, 0, none⟩) (fun _ => .inl rfl) _

end Go.Proofs.Ytibcadfpengacaa

-- NetE
set_option linter.unusedVariables false
set_option linter.unusedSimpArgs false
namespace Go.Proofs.Ytibcadfpengacaa
open Go.RowKit Go.Lib Go.Proofs.YtibcadfpengacaaW.PrintWords Go.Proofs.YtibcadfpengacaaW.PrintMore Go.Proofs.YtibcadfpengacaaW.PrintLast

theorem flat33_len (qs : List Qm) : (qs.flatMap Qm.cs).length = qs.length * 33 := by
  induction qs with
  | nil => rfl
  | cons q qs ih =>
    rw [List.flatMap_cons, List.length_append, ih, Qm.len, List.length_cons]
    omega
theorem flat33_take (qs : List Qm) : ∀ i, (qs.take i).flatMap Qm.cs = (qs.flatMap Qm.cs).take (i * 33) := by
  induction qs with
  | nil => intro i; simp
  | cons q qs ih =>
    intro i
    cases i with
    | zero => simp
    | succ i =>
      rw [List.take_succ_cons, List.flatMap_cons, List.flatMap_cons, ih i, List.take_append, List.take_of_length_le (show q.cs.length ≤ (i + 1) * 33 by rw [Qm.len]; omega), Qm.len, show (i + 1) * 33 - 33 = i * 33 by omega]
theorem flat33_drop (qs : List Qm) : ∀ i, (qs.drop i).flatMap Qm.cs = (qs.flatMap Qm.cs).drop (i * 33) := by
  induction qs with
  | nil => intro i; simp
  | cons q qs ih =>
    intro i
    cases i with
    | zero => simp
    | succ i =>
      rw [List.drop_succ_cons, List.flatMap_cons, ih i, List.drop_append, List.drop_of_length_le (show q.cs.length ≤ (i + 1) * 33 by rw [Qm.len]; omega), Qm.len, show (i + 1) * 33 - 33 = i * 33 by omega, List.nil_append]
theorem flat33_at (qs : List Qm) (i : Nat) (q : Qm) (h : qs[i]? = some q) (j : Nat) (hj : j < 33) : (qs.flatMap Qm.cs)[i * 33 + j]? = q.cs[j]? := by
  have e : (qs.flatMap Qm.cs)[i * 33 + j]? = ((qs.flatMap Qm.cs).drop (i * 33))[j]? := (List.getElem?_drop).symm
  rw [e, ← flat33_drop]
  have hi := (List.getElem?_eq_some_iff.1 h).1
  rw [List.drop_eq_getElem_cons hi, List.flatMap_cons, List.getElem?_append_left (by rw [Qm.len]; exact hj)]
  rw [(List.getElem?_eq_some_iff.1 h).2]
/-- A message of the row. -/
theorem row_range {w : World} {base g n c : Nat} {qs : List Qm} (h : w.ownsRow base 36 33 (.slice (some ⟨g, 0, none⟩) n c) n (qs.flatMap Qm.cs)) (i : Nat) (q : Qm) (hq : qs[i]? = some q) : w.rangeAt g (i * 33) q.cs := fun j v hv => by
  have hj : j < 33 := by
    have := (List.getElem?_eq_some_iff.1 hv).1
    rwa [Qm.len] at this
  have hi := (List.getElem?_eq_some_iff.1 hq).1
  have hl := h.1
  rw [flat33_len] at hl
  rw [World.ownsRow.cellAt h (i * 33 + j) (by omega), flat33_at qs i q hq j hj]
  exact hv
theorem row_take {w : World} {base g n c : Nat} {qs : List Qm} (h : w.ownsRow base 36 33 (.slice (some ⟨g, 0, none⟩) n c) n (qs.flatMap Qm.cs)) (i : Nat) (hi : i ≤ n) : ∀ j u, ((qs.take i).flatMap Qm.cs)[j]? = some u → w.cell? ((⟨g, 0, none⟩ : Addr).add j) = some u := fun j u hu => by
  rw [addr_plus, Nat.zero_add]
  have hl := h.1
  rw [flat33_take] at hu
  have hj := (List.getElem?_eq_some_iff.1 hu).1
  rw [List.length_take] at hj
  rw [World.ownsRow.cellAt h j (by omega)]
  rwa [List.getElem?_take_of_lt (by omega)] at hu
theorem row_drop {w : World} {base g n c : Nat} {qs : List Qm} (h : w.ownsRow base 36 33 (.slice (some ⟨g, 0, none⟩) n c) n (qs.flatMap Qm.cs)) (i : Nat) (hi : i ≤ n) : ∀ j u, ((qs.drop i).flatMap Qm.cs)[j]? = some u → w.cell? ((⟨g, i * 33, none⟩ : Addr).add j) = some u := fun j u hu => by
  rw [addr_plus]
  have hl := h.1
  rw [flat33_drop, List.getElem?_drop] at hu
  have hj := (List.getElem?_eq_some_iff.1 hu).1
  rw [World.ownsRow.cellAt h (i * 33 + j) (by omega)]
  exact hu
theorem own_slice {w : World} {base : Nat} {e : TypeId} {size : Nat} {v : Value} {n : Nat} {xs : List Value} (h : w.ownsRow base e size v n xs) : ∃ A c, v = .slice A n c := by
  rcases h.2 with ⟨rfl, rfl⟩ | ⟨g, cap, cur, rfl, _⟩
  · exact ⟨_, _, rfl⟩
  · exact ⟨_, _, rfl⟩
theorem flat_one (qs : List Qm) : ∀ u ∈ qs.flatMap Qm.cs, u.oneCell' = true := fun u hu => by
  obtain ⟨q, _, h⟩ := List.mem_flatMap.1 hu
  exact q.one u h

theorem own_len {A : Option Addr} {n m c d b : Nat} (h : (Value.slice A n c).ownBlock = some b) : (Value.slice A m d).ownBlock = some b := by
  cases A with
  | none => exact h
  | some a => exact h
theorem belowGrown {v w1 : World} {o : Obj} (hg : (v.drew.alloc o).grownBy w1 (some v.heap.size)) : Below v.heap.size v w1 :=
  ⟨hg.os, hg.tape, hg.output, Nat.le_trans (show v.heap.size ≤ (v.drew.alloc o).heap.size by simp) hg.size, fun k hk => (hg.block k (show k < (v.drew.alloc o).heap.size by simp; omega) (fun e => by injection e with e; omega)).trans (Below.heap_alloc v.drew o k hk)⟩
theorem belowGrown2 {v w1 w2 : World} {row : Option Nat} (h : Below v.heap.size v w1) (hg : w1.grownBy w2 row) (hr : ∀ k, row = some k → v.heap.size ≤ k) : Below v.heap.size v w2 :=
  h.trans ((Keeps.of_grown hg (S := fun b => row = some b) (fun b hb _ => hb)).below h.size (fun b hb e => by have := hr b e; omega))
theorem ownsRow_base {w : World} {b1 b2 : Nat} {e : TypeId} {size : Nat} {v : Value} {n : Nat} {xs : List Value} (h : w.ownsRow b1 e size v n xs) (hb : b2 ≤ b1) : w.ownsRow b2 e size v n xs := by
  refine ⟨h.1, ?_⟩
  rcases h.2 with h | ⟨g, cap, cur, rfl, q0, q1⟩
  · exact .inl h
  · exact .inr ⟨g, cap, cur, rfl, Nat.le_trans hb q0, q1⟩
theorem RefN.erased {w w1 : World} {R base : Nat} {A A5 : Option Addr} {c m cc5 i : Nat} {qs : List Qm} (h : RefN w R base A c qs) (hb : Below w.heap.size w w1) (hown : w1.ownsRow base 36 33 (.slice A5 m cc5) m ((qs.take i).flatMap Qm.cs ++ (qs.drop (i + 1)).flatMap Qm.cs))
    (hi : i < qs.length) (hm : m = qs.length - 1) : RefN (w1.setCell ⟨R, 0, none⟩ (.slice A5 m cc5)) R base A5 cc5 (qs.eraseIdx i) := by
  have hb1 := h.b.below hb
  have kS : Keeps (fun b => b = R) w1 (w1.setCell ⟨R, 0, none⟩ (.slice A5 m cc5)) := (Keeps.refl (fun b => b = R) w1).setCell (a := ⟨R, 0, none⟩) (fun _ => rfl) _
  have hel : (qs.eraseIdx i).length = m := by rw [hm]; exact List.length_eraseIdx_of_lt hi
  refine ⟨by rw [hel]; exact hb1.set 0 _, ?_, ?_⟩
  · rw [hel, List.eraseIdx_eq_take_drop_succ, List.flatMap_append]
    exact ownsRow_keeps hown kS (hb1.rowApart hown (by decide))
  · intro p hp
    obtain ⟨h1, h2⟩ := h.ents p (List.mem_of_mem_eraseIdx hp)
    have h3 := h1.below hb
    exact ⟨h3.keeps kS (fun b hb e => h3.apart hb1 (by decide) (by rw [hb, show b = R from e])), h2⟩

def RDelPost (w : World) (R base : Nat) (qs : List Qm) (x : List Value) (e : Ending) (w' : World) : Prop :=
  e = .returned (.tuple #[.agg x.toArray, .int .i64 0]) ∧ ∃ A' c', RefN w' R base A' c' qs ∧ Keeps (fun k => k = R) w w'

set_option maxHeartbeats 4000000 in
set_option maxRecDepth 100000 in
theorem rdeliver_low (R n c : Nat) (A : Option Addr) (i : Int) (h : i < 0) (w : World) (hc : w.cell? ⟨R, 0, none⟩ = some (.slice A n c)) :
    Calls Try.prog 23 #[.pointer (some ⟨R, 0, none⟩), .int .i64 i] w fun e w' => e = .returned (.tuple #[.agg zcs.toArray, .int .i64 2601]) ∧ Below w.heap.size w w' := by
  have Hc := Lib.hid hc
  have hlt := World.block_lt_of_cell? w _ hc
  clear hc
  go_enter Try.func23, Try.ntmps23
  go_wp2_with (first
    | ((with_reducible refine gate_dst (N := 4) rfl ?_); refine box_event rfl (N := 4) rfl (run_allocM _ _ rfl _) ?_; intro gr hgr v1 hbox hbel; have Br := Lib.hid (show Blk v1 gr 36 zcs from hbox); have BLgr := Lib.hid hbel; have Hgr := Lib.hid hgr; clear hbox hbel hgr; have c0 := (BLgr.out.cell (p := ⟨R, 0, none⟩) hlt).trans Hc.out)
    | ((with_reducible refine gate_dst (N := 18) rfl ?_); refine Kd.event_run rfl (run_buildM _ _ rfl _) ?_)
    | ((with_reducible refine gate_store (t := 36) (p := 4) rfl ?_); refine wpList_store_mid rfl 36 _ _ rfl gr 0 zcs.toArray rfl rfl ?ht ?hi ?h1 ?_; (case ht => exact Br.out.there 33 (Nat.le_refl 33)); (case hi => exact infoMsg); (case h1 => exact all_oneCell_toArray zcs_one); have B2gr := Lib.hid (Br.out.setAll zcs rfl); have Kgr := Lib.hid (Keeps.setCells (S := fun k => k = gr) zcs 0 v1 (Keeps.refl _ _) (fun _ => rfl)); change wpList _ _ _ _ _ (v1.setCells gr 0 zcs); generalize v1.setCells gr 0 zcs = v2 at B2gr Kgr ⊢))
  refine bodyPost_ret (v := .tuple #[.agg zcs.toArray, .int .i64 2601]) (results_cell_tmp Try.results23 (by rfl) (by rfl) (load_msg B2gr.out zcs_len)) rfl ⟨rfl, ?_⟩
  exact BLgr.out.trans (Kgr.out.below BLgr.out.size (fun k hk => by show ¬ k = gr; have := Hgr.out; omega))
set_option maxHeartbeats 4000000 in
set_option maxRecDepth 100000 in
theorem rdeliver_high (R n c : Nat) (A : Option Addr) (i : Int) (h : (n : Int) ≤ i) (w : World) (hc : w.cell? ⟨R, 0, none⟩ = some (.slice A n c)) :
    Calls Try.prog 23 #[.pointer (some ⟨R, 0, none⟩), .int .i64 i] w fun e w' => e = .returned (.tuple #[.agg zcs.toArray, .int .i64 2601]) ∧ Below w.heap.size w w' := by
  have h0 : ¬ i < 0 := by omega
  have h1 : decide (i < 0) = false := by simpa using h0
  have Hc := Lib.hid hc
  have hlt := World.block_lt_of_cell? w _ hc
  clear hc
  go_enter Try.func23, Try.ntmps23
  go_wp2_with (first
    | ((with_reducible refine gate_dst (N := 4) rfl ?_); refine box_event rfl (N := 4) rfl (run_allocM _ _ rfl _) ?_; intro gr hgr v1 hbox hbel; have Br := Lib.hid (show Blk v1 gr 36 zcs from hbox); have BLgr := Lib.hid hbel; have Hgr := Lib.hid hgr; clear hbox hbel hgr; have c0 := (BLgr.out.cell (p := ⟨R, 0, none⟩) hlt).trans Hc.out)
    | ((with_reducible refine gate_dst (N := 18) rfl ?_); refine Kd.event_run rfl (run_buildM _ _ rfl _) ?_)
    | ((with_reducible refine gate_store (t := 36) (p := 4) rfl ?_); refine wpList_store_mid rfl 36 _ _ rfl gr 0 zcs.toArray rfl rfl ?ht ?hi ?h1 ?_; (case ht => exact Br.out.there 33 (Nat.le_refl 33)); (case hi => exact infoMsg); (case h1 => exact all_oneCell_toArray zcs_one); have B2gr := Lib.hid (Br.out.setAll zcs rfl); have Kgr := Lib.hid (Keeps.setCells (S := fun k => k = gr) zcs 0 v1 (Keeps.refl _ _) (fun _ => rfl)); change wpList _ _ _ _ _ (v1.setCells gr 0 zcs); generalize v1.setCells gr 0 zcs = v2 at B2gr Kgr ⊢))
  refine bodyPost_ret (v := .tuple #[.agg zcs.toArray, .int .i64 2601]) (results_cell_tmp Try.results23 (by rfl) (by rfl) (load_msg B2gr.out zcs_len)) rfl ⟨rfl, ?_⟩
  exact BLgr.out.trans (Kgr.out.below BLgr.out.size (fun k hk => by show ¬ k = gr; have := Hgr.out; omega))
set_option maxHeartbeats 4000000 in
set_option maxRecDepth 100000 in
theorem rdeliver_ok (R base c : Nat) (A : Option Addr) (qs : List Qm) (i : Nat) (q : Qm) (hq : qs[i]? = some q) (hn : qs.length ≤ 1048576) (w : World) (h : RefN w R base A c qs) (hbase : base ≤ w.heap.size) :
    Calls Try.prog 23 #[.pointer (some ⟨R, 0, none⟩), .int .i64 i] w (RDelPost w R base (qs.eraseIdx i) q.cs) := by
  obtain ⟨i0, hi0, hz0, hz1, hz2⟩ := info_parts infoMs
  have hil : i < qs.length := (List.getElem?_eq_some_iff.1 hq).1
  obtain ⟨g, cur, rfl, hcur⟩ : ∃ gr cur, A = some ⟨gr, 0, none⟩ ∧ w.heap[gr]? = some (.cells cur 36 (0, 0)) := by
    rcases slice_cur h.own with ⟨_, h, _⟩ | h
    · omega
    · exact h
  have hltg : g < w.heap.size := (Array.getElem?_eq_some_iff.1 hcur).1
  have hlt := h.b.lt
  have hnc : qs.length ≤ c := by
    rcases h.own.2 with ⟨h1, _⟩ | ⟨_, _, _, h1, _, _, h2, _⟩
    · cases h1
    · injection h1 with _ _ h3; omega
  have HN := Lib.hid h; have Hq := Lib.hid hq
  have Hc := Lib.hid (h.b.cell 0 rfl)
  have Hxl := Lib.hid q.len; have Hxo := Lib.hid q.one
  have HO := Lib.hid h.own
  obtain ⟨x, hx⟩ : ∃ x, x = q.cs := ⟨_, rfl⟩
  have HRG := Lib.hid (row_range h.own i q hq)
  rw [← hx] at Hxl Hxo HRG ⊢
  have Hx := Lib.hid hx
  have Hn : Hid (qs.length = qs.length) := Lib.hid rfl
  clear hx h hq hcur
  have HE : Hid ((qs.eraseIdx i).length = qs.length - 1) := Lib.hid (List.length_eraseIdx_of_lt hil)
  generalize hnn : qs.length = n at *
  replace Hn : Hid (qs.length = n) := Lib.hid hnn
  clear hnn
  have h0 : ¬ ((n : Int) ≤ (i : Int)) := by omega
  have h1 : decide ((n : Int) ≤ (i : Int)) = false := by simpa using h0
  have h2 : decide ((i : Int) < 0) = false := by simp
  have h3 : (i : Int) < (n : Int) := by omega
  have h4 : (n : Int) ≤ 1048576 := by omega
  clear h0
  go_enter Try.func23, Try.ntmps23
  go_wp2_with (first
    | ((with_reducible refine gate_dst (N := 4) rfl ?_); refine box_event rfl (N := 4) rfl (run_allocM _ _ rfl _) ?_; intro gr hgr v1 hbox hbel; have Br := Lib.hid (show Blk v1 gr 36 zcs from hbox); have BLgr := Lib.hid hbel; have Hgr := Lib.hid hgr; clear hbox hbel hgr; have c0 := (BLgr.out.cell (p := ⟨R, 0, none⟩) hlt).trans Hc.out; have RG1 := Lib.hid (fun j v (hv : x[j]? = some v) => (BLgr.out.cell (p := ⟨g, i * 33 + j, none⟩) hltg).trans (HRG.out j v hv)); have B1 := Lib.hid BLgr.out)
    | ((with_reducible refine gate_dst (N := 25) rfl ?_); refine wpList_load_mid rfl 36 _ rfl g (i * 33) ?hp x _ ?hc Try.underlying36 rfl ?hi ?_; (case hp => rfl); (case hc => exact RG1.out); (case hi => rw [Hxl.out]; exact infoMsg))
    | ((with_reducible refine gate_dst (N := 6) rfl ?_); refine box_event rfl (N := 6) rfl (run_allocM _ _ rfl _) ?_; intro g6 hg6 v2 hbox hbel; have Bg6 := Lib.hid (show Blk v2 g6 36 zcs from hbox); have BLg6 := Lib.hid hbel; have Hg6 := Lib.hid hg6; clear hbox hbel hg6)
    | ((with_reducible refine gate_store (t := 36) (p := 6) rfl ?_); refine wpList_store_mid rfl 36 _ _ rfl g6 0 x.toArray rfl rfl ?ht ?hi ?h1 ?_; (case ht => exact Bg6.out.there _ (by rw [List.size_toArray, Hxl.out]; exact Nat.le_refl 33)); (case hi => rw [List.size_toArray, Hxl.out]; exact infoMsg); (case h1 => exact all_oneCell_toArray Hxo.out); have B2g6 := Lib.hid (Bg6.out.setAll x (by rw [Hxl.out]; rfl)); have Kg6 := Lib.hid (Keeps.setCells (S := fun k => k = g6) x 0 v2 (Keeps.refl _ _) (fun _ => rfl)); change wpList _ _ _ _ _ (v2.setCells g6 0 x); generalize v2.setCells g6 0 x = v3 at B2g6 Kg6 ⊢; have BMg6 := Lib.hid (BLg6.out.trans (Kg6.out.below BLg6.out.size (fun k hk => by show ¬ k = g6; have := Hg6.out; omega))); clear Bg6 BLg6 Kg6 Hg6; have K3 := Lib.hid (B1.out.trans (BMg6.out.mono B1.out.size)); have R3 := Lib.hid (Br.out.below BMg6.out)))
  have N3 := Lib.hid (HN.out.below K3.out)
  have c3 := (K3.out.cell (p := ⟨R, 0, none⟩) hlt).trans Hc.out
  have Z3 := Lib.hid K3.out.size
  have ba := Lib.hid ((Below.refl v3.drew.heap.size v3.drew).alloc (Nat.le_refl _) (.cells #[] 36))
  have N4 := Lib.hid ((N3.out.below ((Below.refl _ _).drew)).below ba.out)
  have c4 := (((Below.refl v3.heap.size v3).alloc (Nat.le_refl _) (.cells #[] 36)).cell (p := ⟨R, 0, none⟩) N3.out.b.lt).trans c3
  have own0 := World.ownsRow_made (base := v3.heap.size) (e := 36) (size := 33) v3.drew #[] 0 (Nat.le_refl _) (by decide) rfl
  have hic : (i : Int) ≤ (c : Int) := by omega
  have hic1 : (i : Int) + 1 ≤ (c : Int) := by omega
  have hin1 : (i : Int) + 1 ≤ (n : Int) := by omega
  have ww1 : IntKind.i64.wrap ((i : Int) + 1) = (i : Int) + 1 := Go.IntWalk.i64_in _ (by omega)
  have ww2 : (0 : Int) ≤ (i : Int) + 1 := by omega
  have ww3 : ((i : Int) + 1).toNat = i + 1 := by omega
  have hl1 : Hid (((qs.take i).flatMap Qm.cs).length = i * 33) := Lib.hid (by rw [flat33_len, List.length_take, Hn.out, Nat.min_eq_left (by omega)])
  have hl2 : Hid (((qs.drop (i + 1)).flatMap Qm.cs).length = (n - (i + 1)) * 33) := Lib.hid (by rw [flat33_len, List.length_drop, Hn.out])
  have hn1 := Lib.hid (row_take (Hn.out ▸ N4.out.own) i (by omega))
  have ho1 := Lib.hid (flat_one (qs.take i)); have ho2 := Lib.hid (flat_one (qs.drop (i + 1)))
  have h63 : 0 + i ≤ maxLen := by unfold maxLen; omega
  have hby : (0 + i) * 312 ≤ 140737488355328 := by omega
  have h632 : i + (n - (i + 1)) ≤ maxLen := by unfold maxLen; omega
  have hby2 : (i + (n - (i + 1))) * 312 ≤ 140737488355328 := by omega
  have hbs : v3.heap.size ≤ (v3.drew.alloc (.cells #[] 36)).heap.size := ba.out.size
  have hbase3 : Hid (base ≤ v3.heap.size) := Lib.hid (Nat.le_trans hbase Z3.out)
  have OWN0 := Lib.hid own0
  have N3n := Lib.hid (Hn.out ▸ N3.out.own)
  have hltg3 := Lib.hid (Nat.lt_of_lt_of_le hltg Z3.out)
  clear own0 hbase
  obtain ⟨t41, h41⟩ : ∃ t41 : Addr, t41 = (if c = i + 1 then ⟨g, 0, none⟩ else ⟨g, (i + 1) * 33, none⟩) := ⟨_, rfl⟩
  have hn2 : Hid (∀ w' : World, (∀ o : Nat, w'.cell? ⟨g, o, none⟩ = v3.cell? ⟨g, o, none⟩) → ∀ j u, ((qs.drop (i + 1)).flatMap Qm.cs)[j]? = some u → w'.cell? (t41.add j) = some u) := Lib.hid (fun w' hw j u hu => by
    by_cases hcc : c = i + 1
    · have hz : ((qs.drop (i + 1)).flatMap Qm.cs).length = 0 := by rw [hl2.out]; omega
      rw [List.eq_nil_of_length_eq_zero hz] at hu
      simp at hu
    · rw [h41, if_neg hcc, addr_plus, hw, ← addr_plus]
      exact row_drop N3n.out (i + 1) (by omega) j u hu)
  have H41 := Lib.hid h41
  clear h41
  by_cases hcc : c = i + 1
  · obtain rfl : n = i + 1 := by omega
    subst hcc
    have hd0 : Hid ((qs.drop (i + 1)).flatMap Qm.cs = []) := Lib.hid (List.eq_nil_of_length_eq_zero (by rw [hl2.out]; omega))
    clear hic hic1 hin1 hl2 hn2 ho2 h632 hby2 h1 h3 h4 hn hnc HRG Hc HO HE hil
    have h63b : i + 0 ≤ maxLen := by unfold maxLen at h63 ⊢; omega
    have hbyb : (i + 0) * 312 ≤ 140737488355328 := by omega
    have hii : (i : Int) ≤ (i : Int) + 1 := by omega
    go_region_law
      ((first
        | (refine step_wp (by rfl) (wp_append_own _ (.tmp 27) (.tmp 33) 59 (by rfl) v3.heap.size 36 i0 _ 33 312 Try.underlying59 hi0 hz0 hz1 hz2 (by rfl) (by decide) (.slice (some ⟨v3.heap.size, 0, none⟩) 0 0) 0 [] (by rfl) OWN0.out ⟨g, 0, none⟩ i (i + 1) ((qs.take i).flatMap Qm.cs) (by rfl) hl1.out hn1.out ho1.out h63 hby hbs ?_); intro v4 w4 hown4 hg4 _; obtain ⟨A4, cc4, rfl⟩ := own_slice hown4; simp only [Nat.zero_add, List.nil_append] at hown4 ⊢; have HO4 := Lib.hid hown4; have GB := Lib.hid (belowGrown (o := .cells #[] 36) hg4); have c5 : w4.cell? ⟨R, 0, none⟩ = some (.slice (some ⟨g, 0, none⟩) (i + 1) (i + 1)) := (GB.out.cell (p := ⟨R, 0, none⟩) N3.out.b.lt).trans c3; have hcg := Lib.hid (fun o => GB.out.cell (p := ⟨g, o, none⟩) hltg3.out); have hb4 : v3.heap.size ≤ w4.heap.size := GB.out.size; clear hown4 hg4)
        | (refine step_wp (by rfl) (wp_append_own _ (.tmp 34) (.tmp 41) 59 (by rfl) v3.heap.size 36 i0 _ 33 312 Try.underlying59 hi0 hz0 hz1 hz2 (by rfl) (by decide) (.slice A4 i cc4) i ((qs.take i).flatMap Qm.cs) (by rfl) HO4.out ⟨g, 0, none⟩ 0 0 [] (by rfl) rfl (fun j u h => by simp at h) (fun u h => by cases h) h63b hbyb hb4 ?_); intro v5 w5 hown5 hg5 _; obtain ⟨A5, cc5, rfl⟩ := own_slice hown5; have HO5 := Lib.hid hown5; have GB5 := Lib.hid (belowGrown2 GB.out hg5 (fun k h => (HO4.out.lt k h).1)); have c6 : w5.cell? ⟨R, 0, none⟩ = some (.slice (some ⟨g, 0, none⟩) (i + 1) (i + 1)) := (GB5.out.cell (p := ⟨R, 0, none⟩) N3.out.b.lt).trans c3; have f6 := (N3.out.b.below GB5.out).frozen 0; clear hown5 hg5)))
    all_goals
      have N6 := Lib.hid (RefN.erased N3.out GB5.out (ownsRow_base (by have := HO5.out; rw [List.append_nil] at this; rw [hd0.out, List.append_nil]; exact this) hbase3.out) (by rw [Hn.out]; omega) (by rw [Hn.out]; omega))
      have K6 : Hid (Keeps (fun k => k = R) v3 (w5.setCell ⟨R, 0, none⟩ (.slice A5 (i + 0) cc5))) := Lib.hid ((Keeps.of_below_all (S := fun k => k = R) GB5.out).setCell (a := ⟨R, 0, none⟩) (fun _ => rfl) _)
      have P6 := N3.out.b.apart R3.out (by decide)
      have P7 := N3.out.b.apart B2g6.out (by decide)
      have R6 := Lib.hid (R3.out.kept K6.out (fun e => P6 e.symm))
      have B6 := Lib.hid (B2g6.out.kept K6.out (fun e => P7 e.symm))
      clear c5 HO4 GB GB5 hcg hb4 P6 P7
      go_wp2_with (first
        | ((with_reducible refine gate_dst (N := 45) rfl ?_); refine wpList_load_mid rfl 36 _ rfl g6 0 rfl x _ ?hc Try.underlying36 rfl ?hi ?_; (case hc => exact B6.out.range); (case hi => rw [Hxl.out]; exact infoMsg))
        | ((with_reducible refine gate_store (t := 36) (p := 4) rfl ?_); refine wpList_store_mid rfl 36 _ _ rfl gr 0 x.toArray rfl rfl ?ht ?hi ?h1 ?_; (case ht => exact R6.out.there _ (by rw [List.size_toArray, Hxl.out]; exact Nat.le_refl 33)); (case hi => rw [List.size_toArray, Hxl.out]; exact infoMsg); (case h1 => exact all_oneCell_toArray Hxo.out); have B2gr := Lib.hid (R6.out.setAll x (by rw [Hxl.out]; rfl)); have Kgr := Lib.hid (Keeps.setCells (S := fun k => k = gr) x 0 (w5.setCell ⟨R, 0, none⟩ (.slice A5 (i + 0) cc5)) (Keeps.refl _ _) (fun _ => rfl)); change wpList _ _ _ _ _ ((w5.setCell ⟨R, 0, none⟩ (.slice A5 (i + 0) cc5)).setCells gr 0 x); generalize (w5.setCell ⟨R, 0, none⟩ (.slice A5 (i + 0) cc5)).setCells gr 0 x = v7 at B2gr Kgr ⊢))
      have P6 := N6.out.b.apart R6.out (by decide)
      refine bodyPost_ret (v := .tuple #[.agg x.toArray, .int .i64 0]) (results_cell_tmp Try.results23 (by rfl) (by rfl) (load_msg B2gr.out Hxl.out)) rfl ⟨rfl, A5, cc5, N6.out.keeps Kgr.out P6 (fun b h e => by have h1 := (HO5.out.lt b (own_len h)).1; have h2 := R3.out.lt; have h3 : b = gr := e; omega) (fun p hp b h e => (N6.out.ents p hp).1.apart R6.out (by decide) (by rw [h, show b = gr from e])), ?_⟩
      exact ((Keeps.of_below_all (S := fun k => k = R) K3.out).trans K6.out (fun _ _ h => h)).trans Kgr.out (fun k h1 h2 => by have := Hgr.out; omega)
  · have e41 : t41 = ⟨g, (i + 1) * 33, none⟩ := by rw [H41.out, if_neg hcc]
    subst e41
    go_region_law
      ((first
        | (refine step_wp (by rfl) (wp_append_own _ (.tmp 27) (.tmp 33) 59 (by rfl) v3.heap.size 36 i0 _ 33 312 Try.underlying59 hi0 hz0 hz1 hz2 (by rfl) (by decide) (.slice (some ⟨v3.heap.size, 0, none⟩) 0 0) 0 [] (by rfl) OWN0.out ⟨g, 0, none⟩ i c ((qs.take i).flatMap Qm.cs) (by rfl) hl1.out hn1.out ho1.out h63 hby hbs ?_); intro v4 w4 hown4 hg4 _; obtain ⟨A4, cc4, rfl⟩ := own_slice hown4; simp only [Nat.zero_add, List.nil_append] at hown4 ⊢; have HO4 := Lib.hid hown4; have GB := Lib.hid (belowGrown (o := .cells #[] 36) hg4); have c5 : w4.cell? ⟨R, 0, none⟩ = some (.slice (some ⟨g, 0, none⟩) n c) := (GB.out.cell (p := ⟨R, 0, none⟩) N3.out.b.lt).trans c3; have hcg := Lib.hid (fun o => GB.out.cell (p := ⟨g, o, none⟩) hltg3.out); have hb4 : v3.heap.size ≤ w4.heap.size := GB.out.size; clear hown4 hg4)
        | (refine step_wp (by rfl) (wp_append_own _ (.tmp 34) (.tmp 41) 59 (by rfl) v3.heap.size 36 i0 _ 33 312 Try.underlying59 hi0 hz0 hz1 hz2 (by rfl) (by decide) (.slice A4 i cc4) i ((qs.take i).flatMap Qm.cs) (by rfl) HO4.out ⟨g, (i + 1) * 33, none⟩ (n - (i + 1)) (c - (i + 1)) ((qs.drop (i + 1)).flatMap Qm.cs) (by rfl) hl2.out (hn2.out _ hcg.out) ho2.out h632 hby2 hb4 ?_); intro v5 w5 hown5 hg5 _; obtain ⟨A5, cc5, rfl⟩ := own_slice hown5; have HO5 := Lib.hid hown5; have GB5 := Lib.hid (belowGrown2 GB.out hg5 (fun k h => (HO4.out.lt k h).1)); have c6 : w5.cell? ⟨R, 0, none⟩ = some (.slice (some ⟨g, 0, none⟩) n c) := (GB5.out.cell (p := ⟨R, 0, none⟩) N3.out.b.lt).trans c3; have f6 := (N3.out.b.below GB5.out).frozen 0; clear hown5 hg5)))
    all_goals
      have N6 := Lib.hid (RefN.erased N3.out GB5.out (ownsRow_base HO5.out hbase3.out) (by rw [Hn.out]; omega) (by rw [Hn.out]; omega))
      have K6 : Hid (Keeps (fun k => k = R) v3 (w5.setCell ⟨R, 0, none⟩ (.slice A5 (i + (n - (i + 1))) cc5))) := Lib.hid ((Keeps.of_below_all (S := fun k => k = R) GB5.out).setCell (a := ⟨R, 0, none⟩) (fun _ => rfl) _)
      have P6 := N3.out.b.apart R3.out (by decide)
      have P7 := N3.out.b.apart B2g6.out (by decide)
      have R6 := Lib.hid (R3.out.kept K6.out (fun e => P6 e.symm))
      have B6 := Lib.hid (B2g6.out.kept K6.out (fun e => P7 e.symm))
      clear c5 HO4 GB GB5 hcg hb4 P6 P7
      go_wp2_with (first
        | ((with_reducible refine gate_dst (N := 45) rfl ?_); refine wpList_load_mid rfl 36 _ rfl g6 0 rfl x _ ?hc Try.underlying36 rfl ?hi ?_; (case hc => exact B6.out.range); (case hi => rw [Hxl.out]; exact infoMsg))
        | ((with_reducible refine gate_store (t := 36) (p := 4) rfl ?_); refine wpList_store_mid rfl 36 _ _ rfl gr 0 x.toArray rfl rfl ?ht ?hi ?h1 ?_; (case ht => exact R6.out.there _ (by rw [List.size_toArray, Hxl.out]; exact Nat.le_refl 33)); (case hi => rw [List.size_toArray, Hxl.out]; exact infoMsg); (case h1 => exact all_oneCell_toArray Hxo.out); have B2gr := Lib.hid (R6.out.setAll x (by rw [Hxl.out]; rfl)); have Kgr := Lib.hid (Keeps.setCells (S := fun k => k = gr) x 0 (w5.setCell ⟨R, 0, none⟩ (.slice A5 (i + (n - (i + 1))) cc5)) (Keeps.refl _ _) (fun _ => rfl)); change wpList _ _ _ _ _ ((w5.setCell ⟨R, 0, none⟩ (.slice A5 (i + (n - (i + 1))) cc5)).setCells gr 0 x); generalize (w5.setCell ⟨R, 0, none⟩ (.slice A5 (i + (n - (i + 1))) cc5)).setCells gr 0 x = v7 at B2gr Kgr ⊢))
      have P6 := N6.out.b.apart R6.out (by decide)
      refine bodyPost_ret (v := .tuple #[.agg x.toArray, .int .i64 0]) (results_cell_tmp Try.results23 (by rfl) (by rfl) (load_msg B2gr.out Hxl.out)) rfl ⟨rfl, A5, cc5, N6.out.keeps Kgr.out P6 (fun b h e => by have h1 := (HO5.out.lt b (own_len h)).1; have h2 := R3.out.lt; have h3 : b = gr := e; omega) (fun p hp b h e => (N6.out.ents p hp).1.apart R6.out (by decide) (by rw [h, show b = gr from e])), ?_⟩
      exact ((Keeps.of_below_all (S := fun k => k = R) K3.out).trans K6.out (fun _ _ h => h)).trans Kgr.out (fun k h1 h2 => by have := Hgr.out; omega)

end Go.Proofs.Ytibcadfpengacaa

-- NetF
set_option linter.unusedVariables false
set_option linter.unusedSimpArgs false
namespace Go.Proofs.Ytibcadfpengacaa
open Go.RowKit Go.Lib Go.Proofs.YtibcadfpengacaaW.PrintWords Go.Proofs.YtibcadfpengacaaW.PrintMore Go.Proofs.YtibcadfpengacaaW.PrintLast

set_option maxHeartbeats 4000000 in
set_option maxRecDepth 100000 in
theorem rcopy_low (R n c : Nat) (A : Option Addr) (i : Int) (h : i < 0) (w : World) (hc : w.cell? ⟨R, 0, none⟩ = some (.slice A n c)) :
    Calls Try.prog 26 #[.pointer (some ⟨R, 0, none⟩), .int .i64 i] w fun e w' => e = .returned (.int .i64 2601) ∧ w = w' := by
  go_enter Try.func26, Try.ntmps26
  go_wp2
  go_ret
  exact ⟨rfl, rfl⟩
set_option maxHeartbeats 4000000 in
set_option maxRecDepth 100000 in
theorem rcopy_high (R n c : Nat) (A : Option Addr) (i : Int) (h : (n : Int) ≤ i) (w : World) (hc : w.cell? ⟨R, 0, none⟩ = some (.slice A n c)) :
    Calls Try.prog 26 #[.pointer (some ⟨R, 0, none⟩), .int .i64 i] w fun e w' => e = .returned (.int .i64 2601) ∧ w = w' := by
  have h0 : ¬ i < 0 := by omega
  have h1 : decide (i < 0) = false := by simpa using h0
  go_enter Try.func26, Try.ntmps26
  go_wp2
  go_ret
  exact ⟨rfl, rfl⟩
def RCopyPost (w : World) (R base : Nat) (row : Option Nat) (qs : List Qm) (e : Ending) (w' : World) : Prop :=
  e = .returned (.int .i64 0) ∧ ∃ k cap, RefN w' R base (some ⟨k, 0, none⟩) cap qs ∧ (row = some k ∨ w.heap.size ≤ k) ∧ Keeps (fun k => k = R ∨ row = some k) w w'
set_option maxHeartbeats 4000000 in
set_option maxRecDepth 100000 in
theorem rcopy_full (R base c : Nat) (A : Option Addr) (qs : List Qm) (i : Nat) (q : Qm) (hq : qs[i]? = some q) (hn : 1024 ≤ qs.length) (hn2 : qs.length ≤ 1048576) (w : World) (h : RefN w R base A c qs) (hbase : base ≤ w.heap.size) :
    Calls Try.prog 26 #[.pointer (some ⟨R, 0, none⟩), .int .i64 i] w (fun e w' => e = .returned (.int .i64 2600) ∧ Below w.heap.size w w') := by
  have HS := Lib.hid (rsend_full R qs.length c A q.cs q.len hn w (h.b.cell 0 rfl))
  have hil : i < qs.length := (List.getElem?_eq_some_iff.1 hq).1
  obtain ⟨g, cur, rfl, hcur⟩ : ∃ gr cur, A = some ⟨gr, 0, none⟩ ∧ w.heap[gr]? = some (.cells cur 36 (0, 0)) := by
    rcases slice_cur h.own with ⟨_, h, _⟩ | h
    · omega
    · exact h
  have c0 := h.b.cell 0 rfl
  have Hxl := Lib.hid q.len
  have HRG := Lib.hid (row_range h.own i q hq)
  have h1 : decide ((qs.length : Int) ≤ (i : Int)) = false := by simp; omega
  have h2 : decide ((i : Int) < 0) = false := by simp
  have h3 : (i : Int) < (qs.length : Int) := by omega
  have h4 : (qs.length : Int) ≤ 1048576 := by omega
  generalize qs.length = n at *
  generalize q.cs = x at *
  clear h hcur hq hn hn2 hbase hil
  go_enter Try.func26, Try.ntmps26
  go_wp2_with (first
    | ((with_reducible refine gate_dst (N := 23) rfl ?_); refine wpList_load_mid rfl 36 _ rfl g (i * 33) ?hp x _ ?hc Try.underlying36 rfl ?hi ?_; (case hp => rfl); (case hc => exact HRG.out); (case hi => rw [Hxl.out]; exact infoMsg)))
  refine HS.out.mono ?_
  rintro e w' ⟨rfl, hb⟩
  have HB := Lib.hid hb
  clear hb
  go_wp2_with fail
  go_ret
  exact ⟨rfl, HB.out⟩
set_option maxHeartbeats 4000000 in
set_option maxRecDepth 100000 in
theorem rcopy_ok (R base c : Nat) (A : Option Addr) (qs : List Qm) (i : Nat) (q : Qm) (hq : qs[i]? = some q) (s : ByteArray) (HE : ∀ w, EntsG w q → Calls Try.prog 10 #[.agg q.cs.toArray] w fun e w' => e = .returned (.tuple #[.string s, .int .i64 0]) ∧ Below w.heap.size w w') (hn : ¬ 1024 ≤ qs.length) (hn2 : qs.length ≤ 1048576) (w : World) (h : RefN w R base A c qs) (hbase : base ≤ w.heap.size) :
    Calls Try.prog 26 #[.pointer (some ⟨R, 0, none⟩), .int .i64 i] w (RCopyPost w R base (Value.slice A qs.length c).ownBlock (qs ++ [q])) := by
  have HS := Lib.hid (rsend_ok R base c A qs q s HE hn w h hbase (h.ents q (List.mem_of_getElem? hq)).1 (h.ents q (List.mem_of_getElem? hq)).2)
  have hil : i < qs.length := (List.getElem?_eq_some_iff.1 hq).1
  obtain ⟨g, cur, rfl, hcur⟩ : ∃ gr cur, A = some ⟨gr, 0, none⟩ ∧ w.heap[gr]? = some (.cells cur 36 (0, 0)) := by
    rcases slice_cur h.own with ⟨_, h, _⟩ | h
    · omega
    · exact h
  have c0 := h.b.cell 0 rfl
  have Hxl := Lib.hid q.len
  have HRG := Lib.hid (row_range h.own i q hq)
  have h1 : decide ((qs.length : Int) ≤ (i : Int)) = false := by simp; omega
  have h2 : decide ((i : Int) < 0) = false := by simp
  have h3 : (i : Int) < (qs.length : Int) := by omega
  have h4 : (qs.length : Int) ≤ 1048576 := by omega
  generalize qs.length = n at *
  generalize q.cs = x at *
  clear h hcur hq hn hn2 hbase hil HE
  go_enter Try.func26, Try.ntmps26
  go_wp2_with (first
    | ((with_reducible refine gate_dst (N := 23) rfl ?_); refine wpList_load_mid rfl 36 _ rfl g (i * 33) ?hp x _ ?hc Try.underlying36 rfl ?hi ?_; (case hp => rfl); (case hc => exact HRG.out); (case hi => rw [Hxl.out]; exact infoMsg)))
  refine HS.out.mono ?_
  rintro e w' ⟨rfl, hb⟩
  have HB := Lib.hid hb
  clear hb
  go_wp2_with fail
  go_ret
  exact ⟨rfl, HB.out⟩
end Go.Proofs.Ytibcadfpengacaa

-- PlainI
set_option linter.unusedVariables false
set_option linter.unusedSimpArgs false
namespace Go.Proofs.Ytibcadfpengacaa
open Go.RowKit Go.Lib

def Rd.L (ρ : Rd) : List UInt8 := ρ.s.data.toList
theorem ofS_lay (l : List UInt8) (n : Nat) (h1 : 1 ≤ n) (h8 : n ≤ 8) (hl : l.length = n) : leB (ofS ⟨l.toArray⟩) n = l ∧ ofS ⟨l.toArray⟩ < 256 ^ n := by
  have hs : (⟨l.toArray⟩ : ByteArray).size = n := by
    show l.toArray.size = n
    rw [List.size_toArray, hl]
  have h2 := leB_ofLe l
  have h3 := ofLe_lt l
  unfold ofS
  rw [if_pos ⟨by omega, by omega⟩]
  show leB (ofLe l) n = l ∧ ofLe l < 256 ^ n
  rw [hl] at h2 h3
  exact ⟨h2, h3⟩
theorem u64_nat {n : Nat} (h : n < 256 ^ 8) : U64 (n : Int) := by
  have f2 : (256 : Nat) ^ 8 = 18446744073709551616 := by decide
  exact ⟨by omega, by omega⟩
theorem u32_nat {n : Nat} (h : n < 256 ^ 4) : U32 (n : Int) := by
  have f2 : (256 : Nat) ^ 4 = 4294967296 := by decide
  exact ⟨by omega, by omega⟩
theorem i64_nat {n : Nat} (h : n < 256 ^ 1) : I64 (n : Int) := by
  have f2 : (256 : Nat) ^ 1 = 256 := by decide
  exact ⟨by omega, by omega⟩
theorem siz_small {s : ByteArray} (h : s.size ≤ 4096) : Siz s := by unfold Siz; omega
theorem hz_ok : Hd.zero.Ok := ⟨by decide, by decide, by decide, by decide, by decide, by decide, by decide, by decide⟩
theorem u80 : U64 0 := ⟨by decide, by decide⟩
theorem u40 : U32 0 := ⟨by decide, by decide⟩
theorem i80 : I64 0 := ⟨by decide, by decide⟩
theorem sz0 : Siz ⟨#[]⟩ := show 0 ≤ 140737488351232 from by decide
attribute [local irreducible] decH Rd.left Rd.textS Rd.textR Rd.num Rd.took Rd.ents leB txt
end Go.Proofs.Ytibcadfpengacaa

-- RefR
set_option linter.unusedVariables false
set_option linter.unusedSimpArgs false
namespace Go.Proofs.Ytibcadfpengacaa
open Go.RowKit Go.Lib Go.Proofs.YtibcadfpengacaaW.PrintWords Go.Proofs.YtibcadfpengacaaW.PrintMore Go.Proofs.YtibcadfpengacaaW.PrintLast

/-- The reference's reader: what is left, and was too little there? -/
structure Rr where
  s : ByteArray
  bad : Bool
abbrev RrS (w : World) (R : Nat) (ρ : Rr) : Prop := Blk w R 95 [.string ρ.s, .bool ρ.bad]
def Rr.took (ρ : Rr) (n : Nat) : ByteArray := if ρ.s.size < n then zerS n else ρ.s.extract 0 n
def Rr.left (ρ : Rr) (n : Nat) : Rr := if ρ.s.size < n then ⟨⟨#[]⟩, true⟩ else ⟨ρ.s.extract n ρ.s.size, ρ.bad⟩
theorem Rr.left_size (ρ : Rr) (n : Nat) : (ρ.left n).s.size ≤ ρ.s.size := by
  unfold Rr.left
  split
  · show 0 ≤ _; omega
  · show (ρ.s.extract n ρ.s.size).size ≤ _
    rw [ByteArray.size_extract]; omega
theorem Rr.took_size (ρ : Rr) (n : Nat) : (ρ.took n).size = n := by
  unfold Rr.took
  split
  · exact zerS_size n
  · rw [ByteArray.size_extract]; omega

end Go.Proofs.Ytibcadfpengacaa

-- RefS
set_option linter.unusedVariables false
set_option linter.unusedSimpArgs false
namespace Go.Proofs.Ytibcadfpengacaa
open Go.RowKit Go.Lib Go.Proofs.YtibcadfpengacaaW.PrintWords Go.Proofs.YtibcadfpengacaaW.PrintMore Go.Proofs.YtibcadfpengacaaW.PrintLast

def Rr.num (ρ : Rr) (n : Nat) : Nat := ofS (ρ.took n)
def Rr.hd (ρ : Rr) : Hd := decH (ρ.took 28)
def Rr.textS (ρ : Rr) : ByteArray := if 4096 < ρ.num 4 then ⟨#[]⟩ else (ρ.left 4).took (ρ.num 4)
def Rr.textR (ρ : Rr) : Rr := if 4096 < ρ.num 4 then ⟨(ρ.left 4).s, true⟩ else ((ρ.left 4).left (ρ.num 4)).left (padN (ρ.num 4))
/-- What a read leaves of the reader and of the world. -/
def RrPost (R : Nat) (ρ' : Rr) (w w' : World) : Prop := RrS w' R ρ' ∧ Keeps (fun k => k = R) w w'

end Go.Proofs.Ytibcadfpengacaa

-- RefT
set_option linter.unusedVariables false
set_option linter.unusedSimpArgs false
namespace Go.Proofs.Ytibcadfpengacaa
open Go.RowKit Go.Lib

def Rr.entV (ρ : Rr) : Ent := ⟨ρ.textS, ρ.textR.num 8, (ρ.textR.left 8).num 8⟩
def Rr.entR (ρ : Rr) : Rr := (ρ.textR.left 8).left 8
def Rr.ents (ρ : Rr) : Nat → List Ent × Rr
  | 0 => ([], ρ)
  | k + 1 => ((ρ.ents k).1 ++ [(ρ.ents k).2.entV], (ρ.ents k).2.entR)
theorem Rr.ents_length (ρ : Rr) : ∀ k, (ρ.ents k).1.length = k
  | 0 => rfl
  | k + 1 => by rw [Rr.ents, List.length_append, Rr.ents_length ρ k]; rfl
end Go.Proofs.Ytibcadfpengacaa

-- RefU
set_option linter.unusedVariables false
set_option linter.unusedSimpArgs false
namespace Go.Proofs.Ytibcadfpengacaa
open Go.RowKit Go.Lib Go.Proofs.YtibcadfpengacaaW.PrintWords Go.Proofs.YtibcadfpengacaaW.PrintMore Go.Proofs.YtibcadfpengacaaW.PrintLast

/-! GEN -/
/-- What stands while the reference reads: its reader, the answer's place. -/
structure RefH (w0 w : World) (R g2 : Nat) (ρ : Rr) : Prop where
  r : RrS w R ρ
  z : Blk w g2 36 zcs
  bl : Below w0.heap.size w0 w
  hR : w0.heap.size ≤ R
  h2 : w0.heap.size ≤ g2
  n2 : g2 ≠ R
theorem RefH.next {w0 w w' : World} {R g2 : Nat} {ρ ρ' : Rr} (h : RefH w0 w R g2 ρ) (q : RrPost R ρ' w w') : RefH w0 w' R g2 ρ' :=
  ⟨q.1, h.z.kept q.2 h.n2, h.bl.trans (q.2.below (B := w0.heap.size) h.bl.size (fun k hk => by show ¬ k = R; have := h.hR; omega)), h.hR, h.h2, h.n2⟩
/-- .. and the message that is read, at gm. -/
structure RefI (w0 w : World) (R g2 gm : Nat) (ρ : Rr) (cs : List Value) : Prop extends RefH w0 w R g2 ρ where
  m : Blk w gm 36 cs
  hm : w0.heap.size ≤ gm
  n1 : gm ≠ R
  n3 : g2 ≠ gm
theorem RefI.next {w0 w w' : World} {R g2 gm : Nat} {ρ ρ' : Rr} {cs : List Value} (h : RefI w0 w R g2 gm ρ cs) (q : RrPost R ρ' w w') : RefI w0 w' R g2 gm ρ' cs :=
  ⟨h.toRefH.next q, h.m.kept q.2 h.n1, h.hm, h.n1, h.n3⟩
theorem RefI.below {w0 w w' : World} {R g2 gm : Nat} {ρ : Rr} {cs : List Value} (h : RefI w0 w R g2 gm ρ cs) (hb : Below w.heap.size w w') : RefI w0 w' R g2 gm ρ cs :=
  ⟨⟨h.r.below hb, h.z.below hb, h.bl.trans (hb.mono h.bl.size), h.hR, h.h2, h.n2⟩, h.m.below hb, h.hm, h.n1, h.n3⟩
theorem RefI.bad {w0 w : World} {R g2 gm : Nat} {ρ : Rr} {cs : List Value} (h : RefI w0 w R g2 gm ρ cs) : RefI w0 (w.setCell ⟨R, 1, none⟩ (.bool true)) R g2 gm ⟨ρ.s, true⟩ cs := by
  have k := (Keeps.refl (fun k => k = R) w).setCell (a := ⟨R, 1, none⟩) (fun _ => rfl) (.bool true)
  exact h.next ⟨h.r.set 1 (.bool true), k⟩
theorem RefI.put {w0 w w' : World} {R g2 gm : Nat} {ρ : Rr} {cs cs' : List Value} (h : RefI w0 w R g2 gm ρ cs) (k : Keeps (fun k => k = gm) w w') (hc : Blk w' gm 36 cs') : RefI w0 w' R g2 gm ρ cs' :=
  ⟨⟨h.r.kept k (fun e => h.n1 e.symm), h.z.kept k h.n3, h.bl.trans (k.below (B := w0.heap.size) h.bl.size (fun k hk => by show ¬ k = gm; have := h.hm; omega)), h.hR, h.h2, h.n2⟩, hc, h.hm, h.n1, h.n3⟩
theorem RefI.set {w0 w : World} {R g2 gm : Nat} {ρ : Rr} {cs : List Value} (h : RefI w0 w R g2 gm ρ cs) (j : Nat) (v : Value) : RefI w0 (w.setCell ⟨gm, j, none⟩ v) R g2 gm ρ (cs.set j v) :=
  h.put ((Keeps.refl (fun k => k = gm) w).setCell (a := ⟨gm, j, none⟩) (fun _ => rfl) v) (h.m.set j v)
theorem RefI.over {w0 w : World} {R g2 gm : Nat} {ρ : Rr} {cs : List Value} (h : RefI w0 w R g2 gm ρ cs) (vs : List Value) (hl : vs.length = 33) : Blk (w.setCells g2 0 vs) g2 36 vs ∧ Below w0.heap.size w0 (w.setCells g2 0 vs) ∧ ∀ A es, (∀ b o, A = some ⟨b, o, none⟩ → b ≠ g2) → EntsR w A es → EntsR (w.setCells g2 0 vs) A es := by
  have k := Keeps.setCells (S := fun k => k = g2) vs 0 w (Keeps.refl _ _) (fun _ => rfl)
  refine ⟨h.z.setAll vs (by rw [hl]; rfl), h.bl.trans (k.below (B := w0.heap.size) h.bl.size (fun k hk => by show ¬ k = g2; have := h.h2; omega)), fun A es hA he => he.kept k (fun b o e _ => hA b o e)⟩

/-- A message of which the head is known. -/
def hm (k c x : Int) : List Value := ({ Msg.zero with kind := k, client := c, xid := x } : Msg).vs (.slice none 0 0)
end Go.Proofs.Ytibcadfpengacaa

-- RefV
set_option linter.unusedVariables false
set_option linter.unusedSimpArgs false
namespace Go.Proofs.Ytibcadfpengacaa
open Go.RowKit Go.Lib Go.Proofs.YtibcadfpengacaaW.PrintWords Go.Proofs.YtibcadfpengacaaW.PrintMore Go.Proofs.YtibcadfpengacaaW.PrintLast

theorem ownsRow_same {w w' : World} {base : Nat} {e : TypeId} {size : Nat} {v : Value} {n : Nat} {xs : List Value} (h : w.ownsRow base e size v n xs) (hk : ∀ g, v.ownBlock = some g → w'.heap[g]? = w.heap[g]?) : w'.ownsRow base e size v n xs := by
  refine ⟨h.1, ?_⟩
  rcases h.2 with h2 | ⟨g, cap, cur, rfl, hb, hg, rest⟩
  · exact .inl h2
  · exact .inr ⟨g, cap, cur, rfl, hb, (hk g rfl).trans hg, rest⟩
/-- .. and the answer that is read, at ga; its list sl holds es. -/
structure RefA (w0 w : World) (R g2 gm ga : Nat) (ρ : Rr) (cs an : List Value) (sl : Value) (es : List Ent) : Prop extends RefI w0 w R g2 gm ρ cs where
  a : Blk w ga 32 an
  ha : w0.heap.size ≤ ga
  a1 : ga ≠ R
  a2 : ga ≠ g2
  a3 : ga ≠ gm
  own : w.ownsRow w0.heap.size 99 3 sl es.length (es.flatMap Ent.vs)
  nb : ∀ b, sl.ownBlock = some b → b ≠ R ∧ b ≠ g2 ∧ b ≠ gm ∧ b ≠ ga
section
variable {w0 w w' : World} {R g2 gm ga : Nat} {ρ ρ' : Rr} {cs cs' an an' : List Value} {sl sl' : Value} {es : List Ent}
theorem RefA.next (h : RefA w0 w R g2 gm ga ρ cs an sl es) (q : RrPost R ρ' w w') : RefA w0 w' R g2 gm ga ρ' cs an sl es :=
  ⟨h.toRefI.next q, h.a.kept q.2 h.a1, h.ha, h.a1, h.a2, h.a3, ownsRow_same h.own (fun g hg => q.2.block g (h.own.lt g hg).2 (h.nb g hg).1), h.nb⟩
theorem RefA.below (h : RefA w0 w R g2 gm ga ρ cs an sl es) (hb : Below w.heap.size w w') : RefA w0 w' R g2 gm ga ρ cs an sl es :=
  ⟨h.toRefI.below hb, h.a.below hb, h.ha, h.a1, h.a2, h.a3, ownsRow_same h.own (fun g hg => hb.block g (h.own.lt g hg).2), h.nb⟩
theorem RefA.own3 (h : RefA w0 w R g2 gm ga ρ cs an sl es) {n : Nat} (hn : es.length = n) : w.ownsRow w0.heap.size 99 3 sl n (es.flatMap Ent.vs) := by subst hn; exact h.own
theorem RefA.drew (h : RefA w0 w R g2 gm ga ρ cs an sl es) : RefA w0 w.drew R g2 gm ga ρ cs an sl es := h.below ((Below.refl _ _).drew)
theorem RefA.alloc (h : RefA w0 w R g2 gm ga ρ cs an sl es) (o : Obj) : RefA w0 (w.alloc o) R g2 gm ga ρ cs an sl es := h.below ((Below.refl _ _).alloc (Nat.le_refl _) o)
/-- A store into the answer. -/
theorem RefA.put (h : RefA w0 w R g2 gm ga ρ cs an sl es) (k : Keeps (fun k => k = ga) w w') (hc : Blk w' ga 32 an') : RefA w0 w' R g2 gm ga ρ cs an' sl es :=
  ⟨⟨⟨h.r.kept k (fun e => h.a1 e.symm), h.z.kept k (fun e => h.a2 e.symm), h.bl.trans (k.below (B := w0.heap.size) h.bl.size (fun k hk => by show ¬ k = ga; have := h.ha; omega)), h.hR, h.h2, h.n2⟩, h.m.kept k (fun e => h.a3 e.symm), h.hm, h.n1, h.n3⟩,
    hc, h.ha, h.a1, h.a2, h.a3, ownsRow_same h.own (fun g hg => k.block g (h.own.lt g hg).2 (h.nb g hg).2.2.2), h.nb⟩
theorem RefA.set (h : RefA w0 w R g2 gm ga ρ cs an sl es) (j : Nat) (v : Value) : RefA w0 (w.setCell ⟨ga, j, none⟩ v) R g2 gm ga ρ cs (an.set j v) sl es :=
  h.put ((Keeps.refl (fun k => k = ga) w).setCell (a := ⟨ga, j, none⟩) (fun _ => rfl) v) (h.a.set j v)
/-- An append. -/
theorem RefA.append {n : Nat} (hn : es.length = n) (h : RefA w0 w R g2 gm ga ρ cs an sl es) (hg : w.grownBy w' sl.ownBlock) {e : Ent} {g cap : Nat} (ho : w'.ownsRow w0.heap.size 99 3 (.slice (some ⟨g, 0, none⟩) (n + 1) cap) (n + 1) (es.flatMap Ent.vs ++ e.vs))
    (hat : sl.ownBlock = some g ∨ g = w.heap.size) : RefA w0 w' R g2 gm ga ρ cs an (.slice (some ⟨g, 0, none⟩) (n + 1) cap) (es ++ [e]) := by
  subst hn
  have k : Keeps (fun k => sl.ownBlock = some k) w w' := Keeps.of_grown hg (fun k hk _ => hk)
  have e1 : (es ++ [e]).length = es.length + 1 := by simp
  have e2 : (es ++ [e]).flatMap Ent.vs = es.flatMap Ent.vs ++ e.vs := by simp
  refine ⟨⟨⟨h.r.kept k (fun e => (h.nb _ e).1 rfl), h.z.kept k (fun e => (h.nb _ e).2.1 rfl), h.bl.trans (k.below (B := w0.heap.size) h.bl.size (fun b hk hb => by have := (h.own.lt b hb).1; omega)), h.hR, h.h2, h.n2⟩, h.m.kept k (fun e => (h.nb _ e).2.2.1 rfl), h.hm, h.n1, h.n3⟩,
    h.a.kept k (fun e => (h.nb _ e).2.2.2 rfl), h.ha, h.a1, h.a2, h.a3, by rw [e1, e2]; exact ho, ?_⟩
  intro b hb
  have hb' : g = b := by simpa [Value.ownBlock] using hb
  subst hb'
  rcases hat with h5 | h5
  · exact h.nb _ h5
  · have l1 := h.r.lt; have l2 := h.z.lt; have l3 := h.m.lt; have l4 := h.a.lt
    refine ⟨?_, ?_, ?_, ?_⟩ <;> omega
end
def av (status : Int) (ah : Hd) (akind links size change : Int) (adata : ByteArray) (eof : Bool) (anum : Int) (sl : Value) : List Value := [.int .i64 status, .int .u32 ah.ex, .int .u64 ah.snap, .int .u64 ah.ino, .int .u64 ah.gen, .int .i64 akind, .int .u32 links, .int .u64 size, .int .u64 change, .string adata, .bool eof, .int .u64 anum, sl]
theorem RefA.c12 {w0 w : World} {R g2 gm ga : Nat} {ρ : Rr} {cs : List Value} {sl : Value} {es : List Ent} {status : Int} {ah : Hd} {akind links size change : Int} {adata : ByteArray} {eof : Bool} {anum : Int} (h : RefA w0 w R g2 gm ga ρ cs (av status ah akind links size change adata eof anum sl) sl es) : w.cell? ⟨ga, 12, none⟩ = some sl := h.a.cell 12 rfl

end Go.Proofs.Ytibcadfpengacaa

-- RefW
set_option linter.unusedVariables false
set_option linter.unusedSimpArgs false
namespace Go.Proofs.Ytibcadfpengacaa
open Go.RowKit Go.Lib

theorem val_refE {m : Msg} (h : m.Val) {s : ByteArray} (hs : m.layL = s.data.toList) : m.refE = (s, 0) := by
  unfold Msg.refE
  rw [h.short, h.may, if_neg (by decide), if_neg (by decide)]
  have : m.layS = s := by rw [layS_eq, hs]
  rw [this]
/-- The reader behind a message's head. -/
def Rr.a0 (ρ : Rr) : Rr := ((ρ.left 1).left 4).left 8
def Rr.callM (ρ : Rr) : Msg := ⟨(ρ.num 1 : Nat), ((ρ.left 1).num 4 : Nat), (((ρ.left 1).left 4).num 8 : Nat), (ρ.a0.num 1 : Nat), (ρ.a0.left 1).hd, ((ρ.a0.left 1).left 28).hd, (((ρ.a0.left 1).left 28).left 28).textS, (((ρ.a0.left 1).left 28).left 28).textR.textS, ((((ρ.a0.left 1).left 28).left 28).textR.textR.num 8 : Nat), (((((ρ.a0.left 1).left 28).left 28).textR.textR.left 8).num 8 : Nat), (((((ρ.a0.left 1).left 28).left 28).textR.textR.left 8).left 8).textS, 0, Hd.zero, 0, 0, 0, 0, ⟨#[]⟩, false, 0, [], 0, 0, 0⟩
def Rr.callR (ρ : Rr) : Rr := (((((ρ.a0.left 1).left 28).left 28).textR.textR.left 8).left 8).textR
def Rr.backM (ρ : Rr) : Msg := ⟨(ρ.num 1 : Nat), ((ρ.left 1).num 4 : Nat), (((ρ.left 1).left 4).num 8 : Nat), 0, ρ.a0.hd, Hd.zero, ⟨#[]⟩, ⟨#[]⟩, 0, 0, ⟨#[]⟩, 0, Hd.zero, 0, 0, 0, 0, ⟨#[]⟩, false, 0, [], ((ρ.a0.left 28).num 8 : Nat), (((ρ.a0.left 28).left 8).num 8 : Nat), ((((ρ.a0.left 28).left 8).left 8).num 8 : Nat)⟩
def Rr.backR (ρ : Rr) : Rr := (((ρ.a0.left 28).left 8).left 8).left 8

/-- The reader behind a reply's list's length; the reply of which j entries are read. -/
def Rr.b0 (ρ : Rr) : Rr := (((((ρ.a0.left 1).left 28).left 1).left 4).left 8).left 8
def Rr.e0 (ρ : Rr) : Rr := (((ρ.b0.textR).left 1).left 8).left 4
def Rr.repM (ρ : Rr) (j : Nat) : Msg := ⟨(ρ.num 1 : Nat), ((ρ.left 1).num 4 : Nat), (((ρ.left 1).left 4).num 8 : Nat), 0, Hd.zero, Hd.zero, ⟨#[]⟩, ⟨#[]⟩, 0, 0, ⟨#[]⟩, (ρ.a0.num 1 : Nat), (ρ.a0.left 1).hd, (((ρ.a0.left 1).left 28).num 1 : Nat), ((((ρ.a0.left 1).left 28).left 1).num 4 : Nat), (((((ρ.a0.left 1).left 28).left 1).left 4).num 8 : Nat), ((((((ρ.a0.left 1).left 28).left 1).left 4).left 8).num 8 : Nat), ρ.b0.textS, (((ρ.b0.textR.num 1 : Nat) : Int) == 1), ((ρ.b0.textR.left 1).num 8 : Nat), (ρ.e0.ents j).1, ((ρ.e0.ents j).2.num 8 : Nat), (((ρ.e0.ents j).2.left 8).num 8 : Nat), ((((ρ.e0.ents j).2.left 8).left 8).num 8 : Nat)⟩
def Rr.repR (ρ : Rr) (j : Nat) : Rr := (((ρ.e0.ents j).2.left 8).left 8).left 8
end Go.Proofs.Ytibcadfpengacaa

-- RefX
set_option linter.unusedVariables false
set_option linter.unusedSimpArgs false
namespace Go.Proofs.Ytibcadfpengacaa
open Go.RowKit Go.Lib

theorem rr_num_lt (ρ : Rr) (n : Nat) (h1 : 1 ≤ n) (h8 : n ≤ 8) : ρ.num n < 256 ^ n := by
  unfold Rr.num
  have h := (ofS_lay (ρ.took n).data.toList n h1 h8 (by rw [Array.length_toList]; exact Rr.took_size ρ n)).2
  exact h
theorem textR_size' (ρ : Rr) : ρ.textR.s.size ≤ ρ.s.size := by
  unfold Rr.textR
  have h1 := Rr.left_size ρ 4
  have h2 := Rr.left_size (ρ.left 4) (ρ.num 4)
  have h3 := Rr.left_size ((ρ.left 4).left (ρ.num 4)) (padN (ρ.num 4))
  split
  · exact h1
  · omega

theorem Rr.textS_size (ρ : Rr) : ρ.textS.size ≤ 4096 := by
  unfold Rr.textS
  split
  · show 0 ≤ _; omega
  · rw [Rr.took_size]; omega
theorem Rr.u64 (ρ : Rr) : U64 ((ρ.num 8 : Nat) : Int) := u64_nat (rr_num_lt ρ 8 (by omega) (by omega))
theorem Rr.u32 (ρ : Rr) : U32 ((ρ.num 4 : Nat) : Int) := u32_nat (rr_num_lt ρ 4 (by omega) (by omega))
theorem Rr.i64 (ρ : Rr) : I64 ((ρ.num 1 : Nat) : Int) := i64_nat (rr_num_lt ρ 1 (by omega) (by omega))
theorem Rr.siz (ρ : Rr) : Siz ρ.textS := siz_small (Rr.textS_size ρ)
theorem Rr.ents_ok (ρ : Rr) : ∀ k, ∀ e ∈ (ρ.ents k).1, Siz e.name ∧ U64 e.ino ∧ U64 e.cookie
  | 0 => fun e h => by simp [Rr.ents] at h
  | k + 1 => fun e h => by
    rw [Rr.ents, List.mem_append] at h
    rcases h with h | h
    · exact Rr.ents_ok ρ k e h
    · have : e = (ρ.ents k).2.entV := by simpa using h
      subst this
      exact ⟨Rr.siz _, Rr.u64 _, Rr.u64 _⟩
theorem Rr.entR_size (ρ : Rr) : ρ.entR.s.size ≤ ρ.s.size := Nat.le_trans (Rr.left_size _ 8) (Nat.le_trans (Rr.left_size _ 8) (textR_size' ρ))
section
attribute [local irreducible] Rr.left Rr.num Rr.hd Rr.textS Rr.textR Rr.took Rr.entR Rr.entV
theorem Rr.ents_size (ρ : Rr) : ∀ k, (ρ.ents k).2.s.size ≤ ρ.s.size
  | 0 => Nat.le_refl _
  | k + 1 => by
    have h : (ρ.ents (k + 1)).2 = (ρ.ents k).2.entR := rfl
    rw [h]
    exact Nat.le_trans (Rr.entR_size _) (Rr.ents_size ρ k)
end

end Go.Proofs.Ytibcadfpengacaa

-- RefY
set_option linter.unusedVariables false
set_option linter.unusedSimpArgs false
namespace Go.Proofs.Ytibcadfpengacaa
open Go.RowKit Go.Lib

section
attribute [local irreducible] Rr.left Rr.num Rr.hd Rr.textS Rr.textR Rr.took Rr.entR Rr.entV
end

theorem Rr.leS (ρ : Rr) (n : Nat) (h : ρ.s.size ≤ 281474976710656) : (ρ.left n).s.size ≤ 281474976710656 := Nat.le_trans (Rr.left_size ρ n) h
end Go.Proofs.Ytibcadfpengacaa

-- Decodes
set_option linter.unusedVariables false
set_option linter.unusedSimpArgs false
namespace Go.Proofs.Ytibcadfpengacaa
open Go.RowKit Go.Lib Go.Proofs.YtibcadfpengacaaW.PrintWords Go.Proofs.YtibcadfpengacaaW.PrintMore Go.Proofs.YtibcadfpengacaaW.PrintLast

theorem ref_val {m : Msg} (hk : m.Ok) {s : ByteArray} (h : m.refE = (s, 0)) : m.Val ∧ m.layS = s := by
  unfold Msg.refE at h
  cases h1 : m.long with
  | true =>
    rw [h1, if_pos rfl] at h
    exact absurd (congrArg Prod.snd h) (show ¬ (2201 : Int) = 0 from by decide)
  | false =>
    rw [h1, if_neg (by decide)] at h
    cases h2 : m.mayB with
    | false =>
      rw [h2, if_pos rfl] at h
      exact absurd (congrArg Prod.snd h) (show ¬ (2200 : Int) = 0 from by decide)
    | true =>
      rw [h2, if_neg (by decide)] at h
      exact ⟨⟨hk, h1, h2⟩, congrArg Prod.fst h⟩
theorem val_small {m : Msg} (h : m.Val) : m.list.length ≤ 64 ∧ ∀ e ∈ m.list, e.name.size ≤ 4096 := by
  have hl := h.short
  unfold Msg.long at hl
  simp only [Bool.or_eq_false_iff, decide_eq_false_iff_not, List.any_eq_false, decide_eq_true_eq] at hl
  obtain ⟨⟨_, l5⟩, l6⟩ := hl
  exact ⟨by omega, fun e he => by have := l5 e he; omega⟩
theorem OwnEnts.ne {w0 w : World} {A : Option Addr} {cap : Nat} {es : List Ent} (h : OwnEnts w0 w A cap es) {g : Nat} {cs : List Value} (hg : Blk w g 36 cs) : ¬ A = some ⟨g, 0, none⟩ := by
  intro e
  rcases h with ⟨_, rfl, _⟩ | ⟨L, _, rfl, _, _, h5⟩
  · cases e
  · injection e with e
    injection e with e _ _
    subst e
    have h6 := (show w.heap[L]? = _ from h5).symm.trans hg
    injection h6 with h6
    injection h6 with _ h7 _
    exact absurd h7 (by decide)
set_option maxRecDepth 100000 in
theorem spoil_nil (c : Nat) (w : World) : Calls Try.prog 17 #[.slice none 0 c] w fun e w' => e = .returned (.tuple #[]) ∧ w' = w := by
  go_enter Try.func17, Try.ntmps17
  go_wp2
  go_loopw [2] (fun i wr => i = .int .i64 0 ∧ wr = w) (fun i _ => 0)
  case atStart => exact ⟨rfl, rfl⟩
  case round =>
    obtain ⟨rfl, rfl⟩ := hrel
    go_wp2
    go_end0
    exact ⟨rfl, rfl⟩
theorem OwnEnts.below {w0 w w' : World} {A : Option Addr} {cap : Nat} {es : List Ent} (h : OwnEnts w0 w A cap es) (hb : Below w.heap.size w w') : OwnEnts w0 w' A cap es := by
  rcases h with h | ⟨L, h1, h2, h3, h4, h5⟩
  · exact .inl h
  · exact .inr ⟨L, h1, h2, h3, h4, h5.below hb⟩
theorem OwnEnts.lt {w0 w : World} {A : Option Addr} {cap : Nat} {es : List Ent} (h : OwnEnts w0 w A cap es) : ∀ b o, A = some ⟨b, o, none⟩ → w0.heap.size ≤ b ∧ b < w.heap.size := by
  intro b o e
  rcases h with ⟨_, rfl, _⟩ | ⟨L, h1, rfl, _, _, h5⟩
  · cases e
  · injection e with e; injection e with e _ _; subst e; exact ⟨h1, h5.lt⟩

end Go.Proofs.Ytibcadfpengacaa

-- NetG
set_option linter.unusedVariables false
set_option linter.unusedSimpArgs false
namespace Go.Proofs.Ytibcadfpengacaa
open Go.RowKit Go.Lib Go.Proofs.YtibcadfpengacaaW.PrintWords Go.Proofs.YtibcadfpengacaaW.PrintMore Go.Proofs.YtibcadfpengacaaW.PrintLast

/-- The 33 cells at an address, as a value; do they lie there? -/
def midVal (w : World) : Value → Value
  | .pointer (some ⟨b, o, none⟩) => .agg ((List.range 33).map (fun j => (w.cell? ⟨b, o + j, none⟩).getD undef)).toArray
  | _ => undef
def midOk (w : World) : Value → Bool
  | .pointer (some ⟨b, o, none⟩) => (List.range 33).all (fun j => (w.cell? ⟨b, o + j, none⟩).isSome)
  | _ => false
theorem mid_of {w : World} {b o : Nat} {x : List Value} (hl : x.length = 33) (h : w.rangeAt b o x) : midOk w (.pointer (some ⟨b, o, none⟩)) = true ∧ midVal w (.pointer (some ⟨b, o, none⟩)) = .agg x.toArray := by
  have hc : ∀ j, (hj : j < 33) → w.cell? ⟨b, o + j, none⟩ = some (x[j]'(by omega)) := fun j hj => h j _ (List.getElem?_eq_getElem (by omega))
  constructor
  · unfold midOk
    rw [List.all_eq_true]
    intro j hj
    rw [hc j (List.mem_range.1 hj)]
    rfl
  · show Value.agg ((List.range 33).map (fun j => (w.cell? ⟨b, o + j, none⟩).getD undef)).toArray = _
    congr 2
    refine List.ext_getElem? fun j => ?_
    by_cases hj : j < 33
    · rw [List.getElem?_map, List.getElem?_range hj, Option.map_some, hc j hj, List.getElem?_eq_getElem (by omega)]
      rfl
    · rw [List.getElem?_eq_none (by simp; omega), List.getElem?_eq_none (by omega)]
theorem ldM (ev : Operand → Value) (d : Option Tmp) (x : Operand) (t : TypeId) (p : String) (af : Array Edge) (g : Option (Nat × Bool)) (w : World) (h : midOk w (ev x) = true) :
    (execOp ev { dst := d, op := .load 36 x, type := t, pos := p, after := af, guard := g }).run Try.prog w = .ok (.value (midVal w (ev x))) w := by
  generalize he : ev x = v at *
  unfold midOk at h
  split at h
  · rename_i b o
    have hr : w.rangeAt b o ((List.range 33).map (fun j => (w.cell? ⟨b, o + j, none⟩).getD undef)) := fun j u hu => by
      have hj : j < 33 := by
        have := (List.getElem?_eq_some_iff.1 hu).1
        simpa using this
      rw [List.getElem?_map, List.getElem?_range hj, Option.map_some] at hu
      have h2 := (List.all_eq_true.1 h) j (List.mem_range.2 hj)
      obtain ⟨v, hv⟩ := Option.isSome_iff_exists.1 h2
      rw [hv] at hu ⊢
      exact hu
    have hl := run_loadAt_mid (P := Try.prog) w b o 36 _ _ hr Try.underlying36 rfl (by rw [infoMsg]; simp)
    unfold execOp
    simp only [he]
    rw [Sem.run_bind, hl]
    rfl
  · cases h
attribute [local go_sem ↓] ldM

/-- A slice of messages that is read. -/
def MsR (w : World) (A : Option Addr) (qs : List Qm) : Prop := ∀ i q, qs[i]? = some q → ∃ g, A = some ⟨g, 0, none⟩ ∧ w.rangeAt g (i * 33) q.cs ∧ EntsR w q.A q.m.list
theorem row_reads {w : World} {base n c : Nat} {A : Option Addr} {qs : List Qm} (hn : qs.length = n) (h : w.ownsRow base 36 33 (.slice A n c) n (qs.flatMap Qm.cs)) (he : ∀ q ∈ qs, EntsG w q) : MsR w A qs := fun i q hq => by
  have hi := (List.getElem?_eq_some_iff.1 hq).1
  rcases slice_cur h with ⟨_, h0, _⟩ | ⟨g, cur, rfl, _⟩
  · omega
  · exact ⟨g, rfl, row_range h i q hq, (he q (List.mem_of_getElem? hq)).reads⟩
theorem rangeAt_below {w w' : World} {b o : Nat} {x : List Value} (h : w.rangeAt b o x) (hb : Below w.heap.size w w') : w'.rangeAt b o x := fun j v hv => by
  have hc := h j v hv
  exact (hb.cell (p := ⟨b, o + j, none⟩) (World.block_lt_of_cell? w _ hc)).trans hc

set_option maxHeartbeats 4000000 in
set_option maxRecDepth 100000 in
theorem sameMs_any (A1 A2 : Option Addr) (c1 c2 : Nat) (ps qs : List Qm) (hm : ps.map Qm.m = qs.map Qm.m) (hl : ∀ q ∈ ps, q.m.list.length ≤ 64) (hn : ps.length ≤ 1048576) (w : World) (h1 : MsR w A1 ps) (h2 : MsR w A2 qs) :
    Calls Try.prog 28 #[.slice A1 ps.length c1, .slice A2 qs.length c2] w fun e w' => e = .returned (.bool true) ∧ Below w.heap.size w w' := by
  have hlen : qs.length = ps.length := by
    have := congrArg List.length hm
    simpa using this.symm
  have HK : Hid (∀ k, k < ps.length → ∃ (m : Msg) (xA yA : Option Addr) (xc yc : Nat) (x y : List Value) (g1 g2 : Nat), A1 = some ⟨g1, 0, none⟩ ∧ A2 = some ⟨g2, 0, none⟩ ∧ MsgAt x m xA xc ∧ MsgAt y m yA yc ∧ w.rangeAt g1 (k * 33) x ∧ w.rangeAt g2 (k * 33) y ∧ EntsR w xA m.list ∧ EntsR w yA m.list ∧ m.list.length ≤ 64) := Lib.hid (fun k hk => by
    have e1 : ps[k]? = some ps[k] := List.getElem?_eq_getElem hk
    have e2 : qs[k]? = some (qs[k]'(by omega)) := List.getElem?_eq_getElem (by omega)
    obtain ⟨g1, a1, a2, a3⟩ := h1 k _ e1
    obtain ⟨g2, b1, b2, b3⟩ := h2 k _ e2
    have hmm : (ps[k]).m = (qs[k]'(by omega)).m := by
      have h3 := congrArg (fun l => l[k]?) hm
      simp only [List.getElem?_map, e1, e2, Option.map_some] at h3
      exact Option.some.inj h3
    have hl2 := hl _ (List.getElem_mem hk)
    generalize ps[k] = p at *
    generalize (qs[k]'(by omega)) = q at *
    refine ⟨p.m, p.A, q.A, p.c, q.c, p.cs, q.cs, g1, g2, a1, b1, p.at, ?_, a2, b2, a3, ?_, hl2⟩
    · rw [hmm]; exact q.at
    · rw [hmm]; exact b3)
  rw [hlen]
  clear hm hl h1 h2 hlen
  generalize ps.length = n at *
  go_enter Try.func28, Try.ntmps28
  go_wp2
  go_loopw [5] (fun i wr => ∃ k : Nat, k ≤ n ∧ i = .int .i64 (k : Nat) ∧ Below w.heap.size w wr) (fun i _ => n - (RowKit.intOf i).toNat)
  case atStart => exact ⟨0, Nat.zero_le _, rfl, Below.refl _ _⟩
  case round =>
    obtain ⟨k, hk, rfl, hbel⟩ := hrel
    have HB := Lib.hid hbel
    clear hbel
    by_cases hlt : k < n
    · obtain ⟨m, xA, yA, xc, yc, x, y, g1, g2, rfl, rfl, tx, ty, rx, ry, ex, ey, hl⟩ := HK.out k hlt
      have mx := mid_of tx.len (rangeAt_below rx HB.out)
      have my := mid_of ty.len (rangeAt_below ry HB.out)
      have m1 := mx.1; have m2 := mx.2; have m3 := my.1; have m4 := my.2
      have n1 : midOk wr.drew (.pointer (some ⟨g1, k * 33, none⟩)) = true := m1
      have n2 : midVal wr.drew (.pointer (some ⟨g1, k * 33, none⟩)) = .agg x.toArray := m2
      have n3 : midOk wr.drew (.pointer (some ⟨g2, k * 33, none⟩)) = true := m3
      have n4 : midVal wr.drew (.pointer (some ⟨g2, k * 33, none⟩)) = .agg y.toArray := m4
      have TX := Lib.hid tx; have TY := Lib.hid ty
      have EX := Lib.hid (ex.below HB.out); have EY := Lib.hid (ey.below HB.out)
      have HL := Lib.hid hl
      clear tx ty rx ry ex ey hl mx my
      go_wp2_with fail
      go_region_law
        ((go_simp; go_at_call 16; refine (same_raw m xA yA xc yc x y TX.out TY.out (by have := HL.out; omega) _ (EX.out.below (Below.refl _ _).drew) (EY.out.below (Below.refl _ _).drew)).mono ?_; rintro e w' ⟨rfl, hb⟩; have HB2 := Lib.hid (HB.out.drew.trans (hb.mono HB.out.size)); clear hb))
      all_goals
        go_wp2_with fail
        go_roundw
        case rel => exact ⟨k + 1, by omega, by go_num, HB2.out⟩
        case measure => simp [RowKit.intOf]; omega
    · have he : k = n := by omega
      subst he
      go_wp2_with fail
      go_ret
      exact ⟨rfl, HB.out⟩

end Go.Proofs.Ytibcadfpengacaa

-- NetH
set_option linter.unusedVariables false
set_option linter.unusedSimpArgs false
namespace Go.Proofs.Ytibcadfpengacaa
open Go.RowKit Go.Lib Go.Proofs.YtibcadfpengacaaW.PrintWords Go.Proofs.YtibcadfpengacaaW.PrintMore Go.Proofs.YtibcadfpengacaaW.PrintLast

theorem spoil_g (q : Qm) (hl : q.m.list.length ≤ 64) (hs : ∀ e ∈ q.m.list, e.name.size ≤ 4096) (w : World) (h : EntsG w q) :
    Calls Try.prog 17 #[.slice q.A q.m.list.length q.c] w fun e w' => e = .returned (.tuple #[]) ∧ Keeps (fun k => q.A = some ⟨k, 0, none⟩) w w' := by
  rcases h with ⟨h1, h2, h3⟩ | ⟨L, h1, _, h3⟩
  · rw [h1, h2, h3]
    refine (spoil_nil 0 w).mono ?_
    rintro e w' ⟨rfl, rfl⟩
    exact ⟨rfl, Keeps.refl _ _⟩
  · rw [h1]
    refine (spoil_any L q.c q.m.list (by omega) (fun e he => by have := hs e he; omega) w h3).mono ?_
    rintro e w' ⟨rfl, hk⟩
    exact ⟨rfl, hk.mono (fun k _ e => by rw [e])⟩
/-- What is spoiled: the row, the lists of its messages. -/
def SpS (v : Value) (qs : List Qm) (k : Nat) : Prop := v.ownBlock = some k ∨ ∃ q ∈ qs, q.A = some ⟨k, 0, none⟩
set_option maxHeartbeats 4000000 in
set_option maxRecDepth 100000 in
theorem spoilMs_any (base c : Nat) (A : Option Addr) (qs : List Qm) (hl : ∀ q ∈ qs, q.m.list.length ≤ 64 ∧ (∀ e ∈ q.m.list, e.name.size ≤ 4096)) (hn : qs.length ≤ 1048576) (w : World) (h : MsRow w base (.slice A qs.length c) qs) :
    Calls Try.prog 29 #[.slice A qs.length c] w fun e w' => e = .returned (.tuple #[]) ∧ Keeps (SpS (.slice A qs.length c) qs) w w' := by
  have HK : Hid (∀ k, k < qs.length → ∃ (q : Qm) (g : Nat), qs[k]? = some q ∧ A = some ⟨g, 0, none⟩ ∧ w.cell? ⟨g, k * 33 + 2, none⟩ = some (.int .u64 q.m.xid) ∧ w.cell? ⟨g, k * 33 + 29, none⟩ = some (.slice q.A q.m.list.length q.c) ∧ (∀ o, w.frozen? ⟨g, o, none⟩ = false) ∧ g < w.heap.size ∧
      EntsG w q ∧ q.A ≠ some ⟨g, 0, none⟩ ∧ (∀ j p, j < k → qs[j]? = some p → ∀ b, p.A = some ⟨b, 0, none⟩ → q.A ≠ some ⟨b, 0, none⟩) ∧ (∀ w, EntsG w q → Calls Try.prog 17 #[.slice q.A q.m.list.length q.c] w fun e w' => e = .returned (.tuple #[]) ∧ Keeps (fun k => q.A = some ⟨k, 0, none⟩) w w')) := Lib.hid (fun k hk => by
    have e1 : qs[k]? = some qs[k] := List.getElem?_eq_getElem hk
    have hmem := List.getElem_mem hk
    rcases slice_cur h.own with ⟨_, h0, _⟩ | ⟨g, cur, rfl, hcur⟩
    · omega
    · have hr := row_range h.own k _ e1
      have hap := h.apart
      have hent := (h.ents _ hmem).1
      obtain ⟨l1, l2⟩ := hl _ hmem
      refine ⟨qs[k], g, e1, rfl, hr 2 _ rfl, hr 29 _ rfl, World.ownsRow.frozenAt h.own, (Array.getElem?_eq_some_iff.1 hcur).1, hent, fun e => hent.apartRow h.own g e rfl, ?_, fun w h => spoil_g _ l1 l2 w h⟩
      intro j p hj hp b hb
      have hp2 := (List.getElem?_eq_some_iff.1 hp).2
      have h4 := (List.pairwise_iff_getElem.1 hap) j k (by omega) hk hj
      rw [hp2] at h4
      exact h4 b hb)
  have HQ : Hid (∀ k q, qs[k]? = some q → q ∈ qs) := Lib.hid (fun k q hq => List.mem_of_getElem? hq)
  clear h hl
  generalize qs.length = n at *
  go_enter Try.func29, Try.ntmps29
  go_wp2
  go_loopw [2] (fun i wr => ∃ k : Nat, k ≤ n ∧ i = .int .i64 (k : Nat) ∧ Keeps (fun b => (Value.slice A n c).ownBlock = some b ∨ ∃ j q, j < k ∧ qs[j]? = some q ∧ q.A = some ⟨b, 0, none⟩) w wr ∧
      (∀ g, A = some ⟨g, 0, none⟩ → (∀ j o, k ≤ j → o < 33 → wr.cell? ⟨g, j * 33 + o, none⟩ = w.cell? ⟨g, j * 33 + o, none⟩) ∧ ∀ o, wr.frozen? ⟨g, o, none⟩ = w.frozen? ⟨g, o, none⟩)) (fun i _ => n - (RowKit.intOf i).toNat)
  case atStart => exact ⟨0, Nat.zero_le _, rfl, Keeps.refl _ _, fun g _ => ⟨fun _ _ _ _ => rfl, fun _ => rfl⟩⟩
  case round =>
    obtain ⟨k, hk, rfl, hkeep, hsame⟩ := hrel
    have HKP := Lib.hid hkeep; have HSM := Lib.hid hsame
    clear hkeep hsame
    by_cases hlt : k < n
    · obtain ⟨q, g, hq, rfl, c2, c29, hfz, hgl, hent, hqg, hdist, hsp⟩ := HK.out k hlt
      have HS := HSM.out g rfl
      have d2 := (HS.1 k 2 (Nat.le_refl _) (by omega)).trans c2
      have d29 := (HS.1 k 29 (Nat.le_refl _) (by omega)).trans c29
      have f2 := (HS.2 (k * 33 + 2)).trans (hfz _)
      have HQg := Lib.hid hqg; have HD := Lib.hid hdist; have HSP := Lib.hid hsp; have Hq := Lib.hid hq; have HE := Lib.hid hent; have HSX := Lib.hid HS; have Hgl := Lib.hid hgl
      have hno : ∀ b, q.A = some ⟨b, 0, none⟩ → ¬ ((Value.slice (some ⟨g, 0, none⟩) n c).ownBlock = some b ∨ ∃ j p, j < k ∧ qs[j]? = some p ∧ p.A = some ⟨b, 0, none⟩) := fun b hb h => by
        rcases h with h | ⟨j, p, hj, hp, hA⟩
        · have : g = b := by simpa [Value.ownBlock] using h
          subst this
          exact hqg hb
        · exact hdist j p hj hp b hA hb
      have K2 : Hid (∀ V, Keeps (fun b => (Value.slice (some ⟨g, 0, none⟩) n c).ownBlock = some b ∨ ∃ j p, j < k + 1 ∧ qs[j]? = some p ∧ p.A = some ⟨b, 0, none⟩) w (wr.setCell ⟨g, k * 33 + 2, none⟩ V)) := Lib.hid (fun V => (HKP.out.mono (fun b _ h => by
        rcases h with h | ⟨j, p, hj, hp⟩
        · exact .inl h
        · exact .inr ⟨j, p, by omega, hp⟩)).setCell (a := ⟨g, k * 33 + 2, none⟩) (fun _ => .inl rfl) V)
      have E2 : Hid (∀ V, EntsG (wr.setCell ⟨g, k * 33 + 2, none⟩ V) q) := Lib.hid (fun V => (HE.out.keeps HKP.out hno).keeps ((Keeps.refl (fun b => b = g) wr).setCell (a := ⟨g, k * 33 + 2, none⟩) (fun _ => rfl) V) (fun b hb e => HQg.out (by rw [hb, show b = g from e])))
      have S2 : Hid (∀ V j o, k + 1 ≤ j → o < 33 → (wr.setCell ⟨g, k * 33 + 2, none⟩ V).cell? ⟨g, j * 33 + o, none⟩ = w.cell? ⟨g, j * 33 + o, none⟩) := Lib.hid (fun V j o hj ho => (World.cell?_setCell_other _ _ _ _ (by intro e; injection e with _ e _; omega)).trans (HSX.out.1 j o (by omega) ho))
      have G2 := Lib.hid (Nat.lt_of_lt_of_le Hgl.out HKP.out.size)
      clear hq c2 c29 hfz hent hqg hdist hsp HS hgl hno
      go_wp2_with fail
      refine (HSP.out _ (E2.out _)).mono ?_
      rintro e w3 ⟨rfl, hk3⟩
      have K3 := Lib.hid ((K2.out _).trans (hk3.mono (S' := fun b => (Value.slice (some ⟨g, 0, none⟩) n c).ownBlock = some b ∨ ∃ j p, j < k + 1 ∧ qs[j]? = some p ∧ p.A = some ⟨b, 0, none⟩) (fun b _ h => .inr ⟨k, q, by omega, Hq.out, h⟩)) (fun _ _ h => h))
      have S3 : Hid (∀ g', (some ⟨g, 0, none⟩ : Option Addr) = some ⟨g', 0, none⟩ → (∀ j o, k + 1 ≤ j → o < 33 → w3.cell? ⟨g', j * 33 + o, none⟩ = w.cell? ⟨g', j * 33 + o, none⟩) ∧ ∀ o, w3.frozen? ⟨g', o, none⟩ = w.frozen? ⟨g', o, none⟩) := Lib.hid (fun g' e => by
        injection e with e
        injection e with e _ _
        subst e
        refine ⟨fun j o hj ho => (hk3.cell (a := ⟨g, j * 33 + o, none⟩) (by have := G2.out; simpa using this) HQg.out).trans (S2.out _ j o hj ho), fun o => (hk3.frozen (a := ⟨g, o, none⟩) (by have := G2.out; simpa using this) HQg.out).trans ?_⟩
        rw [World.frozen?_setCell]
        exact HSX.out.2 o)
      clear hk3 d2 d29 f2
      go_wp2_with fail
      go_roundw
      case rel => exact ⟨k + 1, by omega, by go_num, K3.out, S3.out⟩
      case measure => simp [RowKit.intOf]; omega
    · have he : k = n := by omega
      subst he
      go_wp2_with fail
      go_end0
      exact ⟨rfl, HKP.out.mono (fun b _ h => by
        rcases h with h | ⟨j, q, _, hq, hA⟩
        · exact .inl h
        · exact .inr ⟨q, HQ.out j q hq, hA⟩)⟩

end Go.Proofs.Ytibcadfpengacaa

-- NetI
set_option linter.unusedVariables false
set_option linter.unusedSimpArgs false
namespace Go.Proofs.Ytibcadfpengacaa
open Go.RowKit Go.Lib Go.Proofs.YtibcadfpengacaaW.PrintWords Go.Proofs.YtibcadfpengacaaW.PrintMore Go.Proofs.YtibcadfpengacaaW.PrintLast

theorem net_next {w v v' : World} {N base : Nat} {g : Option Nat} {ss : List ByteArray} (KB : Below w.heap.size w v) (hN : NetAt v N base g ss) (hb : w.heap.size ≤ base) (hNw : w.heap.size ≤ N) (hk : Keeps (fun k => k = N ∨ some k = g) v v') : Below w.heap.size w v' :=
  KB.trans (hk.below KB.size (fun k h1 h2 => by
    rcases h2 with h | h
    · omega
    · have := (hN.row_lt k h.symm).1
      omega))
theorem blk_next {v v' : World} {N base : Nat} {g : Option Nat} {ss : List ByteArray} (hN : NetAt v N base g ss) {b : Nat} {t : TypeId} {cs : List Value} (hB : Blk v b t cs) (hk : Keeps (fun k => k = N ∨ some k = g) v v') (h1 : t ≠ 103 := by decide) (h2 : t ≠ 9 := by decide) : Blk v' b t cs :=
  hB.kept hk (by
    have h := hN.apart hB h1 h2
    rintro (e | e)
    · exact h.1 e.symm
    · exact h.2 e.symm)
/-- The message of awake. -/
def bm : Msg := { Msg.zero with kind := 4, client := 1 }
theorem bm_ok : bm.Ok := by
  refine ⟨⟨by decide, by decide⟩, ⟨by decide, by decide⟩, u80, i80, hz_ok, hz_ok, sz0, sz0, u80, u80, sz0, i80, hz_ok, i80, u40, u80, u80, sz0, u80, ?_, Nat.zero_le _, u80, u80, u80⟩
  intro e h
  cases h
theorem bm_val : bm.Val where
  ok := bm_ok
  short := by decide
  may := by
    have e1 : bm.kind = 4 := rfl
    have e2 : bm.noAns = true := by
      unfold Msg.noAns noAns
      show ((0 : Int) == 0 && hdEq 0 0 0 0 0 0 0 0 && attrEq 0 0 0 0 0 0 0 0 && (⟨#[]⟩ : ByteArray).toList.isEmpty && !false && (0 : Int) == 0 && ((0 : Nat) : Int) == 0) = true
      rw [nil_toList]
      rfl
    unfold Msg.mayB
    rw [e2, e1]
    show (askEq 0 0 0 0 0 0 0 0 0 ⟨#[]⟩ ⟨#[]⟩ 0 0 ⟨#[]⟩ 0 0 0 0 0 0 0 0 0 ⟨#[]⟩ ⟨#[]⟩ 0 0 ⟨#[]⟩ && true) = true
    rw [askEq_self]
    rfl
def bcs : List Value := bm.vs (.slice none 0 0)
theorem bcs_len : bcs.length = 33 := rfl
theorem bcs_one : ∀ v ∈ bcs, v.oneCell' = true := bm.one none 0 0
theorem bcs_at : MsgAt bcs bm none 0 := MsgAt.of bm none 0
theorem layS_small2 (m : Msg) (hv : m.Val) : m.layS.size ≤ 1000000 ∧ 1 ≤ m.layS.size := by
  have h1 := enc_val m hv
  have h2 := Wr.fields_len m
  have h3 : m.enc.1 = m.layL := by rw [h1]
  have h4 := Wr.head_pos m hv.ok
  have h5 := Wr.fields_ge m ⟨0, []⟩
  have h6 : m.enc.1 = (Wr.fields ⟨0, []⟩ m).bs ∨ m.enc.1 = [] := by
    unfold Msg.enc encV
    split
    · right; rfl
    · split
      · right; rfl
      · left; rfl
  have h7 : m.layS.size = m.layL.length := by rw [layS_eq]; show m.layL.toArray.size = _; simp
  have h8 : 1 ≤ m.layL.length := by
    unfold Msg.layL Msg.headL one1
    split
    · simp [leB_length] <;> omega
    · split
      · simp [leB_length] <;> omega
      · simp [leB_length] <;> omega
  rw [h7]
  refine ⟨?_, h8⟩
  rw [← h3]
  rcases h6 with h | h
  · rw [h]; exact h2
  · rw [h]; simp



/-- Below, and what stands of the net. -/
structure NetI (w v : World) (g : Option Nat) (ss : List ByteArray) : Prop where
  kb : Below w.heap.size w v
  n : NetAt v w.heap.size w.heap.size g ss
theorem NetI.next {w v v' : World} {g g' : Option Nat} {ss ss' : List ByteArray} (h : NetI w v g ss) (hk : Keeps (fun k => k = w.heap.size ∨ some k = g) v v') (hn : NetAt v' w.heap.size w.heap.size g' ss') : NetI w v' g' ss' :=
  ⟨net_next h.kb h.n (Nat.le_refl _) (Nat.le_refl _) hk, hn⟩
theorem NetI.below {w v v' : World} {g : Option Nat} {ss : List ByteArray} (h : NetI w v g ss) (hb : Below v.heap.size v v') : NetI w v' g ss := ⟨h.kb.trans (hb.mono h.kb.size), h.n.below hb⟩

set_option maxHeartbeats 4000000 in
set_option maxRecDepth 100000 in
theorem awake26_any (w : World) : Calls Try.prog 30 #[] w fun e w' => e = .returned (.bool true) ∧ Below w.heap.size w w' := by
  have hd := dec_layS bm bm_val
  have hsz := (layS_small2 bm bm_val).1
  have hre : bm.refE = (bm.layS, 0) := val_refE bm_val (layS_data bm).symm
  have HE : Hid (∀ w, True → Calls Try.prog 9 #[.agg bcs.toArray] w fun e w' => e = .returned (.tuple #[.string bm.layS, .int .i64 0]) ∧ Below w.heap.size w w') := Lib.hid (fun w _ => by
    have h := encode_ref bm none 0 bm_ok (Nat.zero_le _) (.inl rfl) w (fun i e h => by simp [bm, Msg.zero] at h)
    rw [hre] at h
    exact h)
  have HDV : Hid (∀ (N base : Nat) (g : Option Nat) (ss : List ByteArray) (i : Nat), ss[i]? = some bm.layS → ss.length ≤ 1099511627776 → ∀ w, NetAt w N base g ss → Calls Try.prog 22 #[.pointer (some ⟨N, 0, none⟩), .int .i64 i] w fun e w' => ∃ A cap, e = .returned (.tuple #[.agg (bm.vs (.slice A bm.list.length cap)).toArray, .int .i64 0]) ∧ NetAt w' N base g (ss.eraseIdx i) ∧ OwnEnts w w' A cap bm.list ∧ Keeps (fun k => k = N ∨ some k = g) w w') := Lib.hid (fun N base g ss i h1 h2 w h => by
    have h3 := deliver_ok N base g ss i bm.layS h1 (by omega) h2 w h
    rw [hd.1, hd.2] at h3
    exact h3)
  have HLO : Hid (∀ (N base : Nat) (g : Option Nat) (ss : List ByteArray) (i : Nat), ss[i]? = some bm.layS → ss.length ≤ 1099511627776 → ∀ w, NetAt w N base g ss → Calls Try.prog 24 #[.pointer (some ⟨N, 0, none⟩), .int .i64 i] w fun e w' => e = .returned (.int .i64 0) ∧ NetAt w' N base g (ss.eraseIdx i) ∧ Keeps (fun k => k = N ∨ some k = g) w w') := Lib.hid (fun N base g ss i h1 h2 w h => by
    have h3 := lose_ok N base g ss i bm.layS h1 (by omega) h2 w h
    rw [hd.2] at h3
    exact h3)
  clear hd hsz hre
  generalize bm.layS = s at *
  go_enter Try.func30, Try.ntmps30
  go_wp2_with fail
  refine (netNew_any w).mono ?_
  rintro e v0 ⟨rfl, hv0⟩
  have I0 : Hid (NetI w v0 none []) := Lib.hid (by rw [hv0]; exact ⟨(Below.refl _ _).alloc (Nat.le_refl _) _, NetAt.new w⟩)
  clear hv0
  go_wp2_with (first
    | ((with_reducible refine gate_dst (N := 11) rfl ?_); refine Kd.event_run (v := .agg bcs.toArray) rfl ?hr ?_; (case hr => go_simp; rfl))
    | ((with_reducible refine gate_dst (N := 2) rfl ?_); refine box_event rfl (N := 2) rfl (run_allocM _ _ rfl _) ?_; intro g2 hg2 v1 hbox hbel; have Bg2 := Lib.hid (show Blk v1 g2 36 zcs from hbox); have BLg2 := Lib.hid hbel; have Hg2 := Lib.hid hg2; clear hbox hbel hg2)
    | ((with_reducible refine gate_store (t := 36) (p := 2) rfl ?_); refine wpList_store_mid rfl 36 _ _ rfl g2 0 bcs.toArray rfl rfl ?ht ?hi ?h1 ?_; (case ht => exact Bg2.out.there _ (by rw [List.size_toArray, bcs_len]; exact Nat.le_refl 33)); (case hi => rw [List.size_toArray, bcs_len]; exact infoMsg); (case h1 => exact all_oneCell_toArray bcs_one); have B2g2 := Lib.hid (Bg2.out.setAll bcs (by rw [bcs_len]; rfl)); have Kg2 := Lib.hid (Keeps.setCells (S := fun k => k = g2) bcs 0 v1 (Keeps.refl _ _) (fun _ => rfl)); change wpList _ _ _ _ _ (v1.setCells g2 0 bcs); generalize v1.setCells g2 0 bcs = v2 at B2g2 Kg2 ⊢; have BMg2 := Lib.hid (BLg2.out.trans (Kg2.out.below BLg2.out.size (fun k hk => by show ¬ k = g2; have := Hg2.out; omega))); clear Bg2 BLg2 Kg2 Hg2; have I2 := Lib.hid (I0.out.below BMg2.out); clear BMg2)
    | ((with_reducible refine gate_dst (N := 13) rfl ?_); refine wpList_load_mid rfl 36 _ rfl g2 0 rfl bcs _ ?hc Try.underlying36 rfl ?hi ?_; (case hc => exact B2g2.out.range); (case hi => rw [bcs_len]; exact infoMsg)))
  refine (send_ok w.heap.size w.heap.size none [] bcs bcs_len s (fun _ => True) (fun _ _ _ h => h) HE.out (show ¬ 1024 ≤ 0 from by decide) v2 I2.out.n I2.out.kb.size trivial).mono ?_
  rintro e v3 ⟨rfl, k3, hn3, _, hk3⟩
  have I3 := Lib.hid (show NetI w v3 (some k3) [s] from I2.out.next hk3 hn3)
  have B3 := Lib.hid (blk_next I2.out.n B2g2.out hk3)
  clear hn3 hk3 I2 B2g2
  go_wp2_with fail
  refine (copy_ok w.heap.size w.heap.size (some k3) [s] 0 s rfl (show ¬ 1024 ≤ 1 from by decide) v3 I3.out.n I3.out.kb.size).mono ?_
  rintro e v4 ⟨rfl, k4, hn4, _, hk4⟩
  have I4 := Lib.hid (show NetI w v4 (some k4) [s, s] from I3.out.next hk4 hn4)
  have B4 := Lib.hid (blk_next I3.out.n B3.out hk4)
  clear hn4 hk4 I3 B3
  go_wp2_with fail
  refine (HDV.out w.heap.size w.heap.size (some k4) [s, s] 1 rfl (show 2 ≤ 1099511627776 from by decide) v4 I4.out.n).mono ?_
  rintro e v5 ⟨A5, c5, rfl, hn5, ho5, hk5⟩
  have I5 := Lib.hid (show NetI w v5 (some k4) [s] from I4.out.next hk5 hn5)
  have B5 := Lib.hid (blk_next I4.out.n B4.out hk5)
  have T5 := Lib.hid (MsgAt.of bm A5 c5)
  generalize bm.vs (.slice A5 bm.list.length c5) = x at *
  clear hn5 ho5 hk5 I4 B4
  go_wp2_with (first
    | ((with_reducible refine gate_dst (N := 5) rfl ?_); refine box_event rfl (N := 5) rfl (run_allocM _ _ rfl _) ?_; intro g5 hg5 v6 hbox hbel; have Bg5 := Lib.hid (show Blk v6 g5 36 zcs from hbox); have BLg5 := Lib.hid hbel; have Hg5 := Lib.hid hg5; clear hbox hbel hg5)
    | ((with_reducible refine gate_store (t := 36) (p := 5) rfl ?_); refine wpList_store_mid rfl 36 _ _ rfl g5 0 x.toArray rfl rfl ?ht ?hi ?h1 ?_; (case ht => exact Bg5.out.there _ (by rw [List.size_toArray, T5.out.len]; exact Nat.le_refl 33)); (case hi => rw [List.size_toArray, T5.out.len]; exact infoMsg); (case h1 => exact all_oneCell_toArray T5.out.one); have B2g5 := Lib.hid (Bg5.out.setAll x (by rw [T5.out.len]; rfl)); have Kg5 := Lib.hid (Keeps.setCells (S := fun k => k = g5) x 0 v6 (Keeps.refl _ _) (fun _ => rfl)); change wpList _ _ _ _ _ (v6.setCells g5 0 x); generalize v6.setCells g5 0 x = v7 at B2g5 Kg5 ⊢; have BMg5 := Lib.hid (BLg5.out.trans (Kg5.out.below BLg5.out.size (fun k hk => by show ¬ k = g5; have := Hg5.out; omega))); clear Bg5 BLg5 Kg5 Hg5; have I7 := Lib.hid (I5.out.below BMg5.out); have B7 := Lib.hid (B5.out.below BMg5.out); clear BMg5))
  obtain ⟨A7, c7, hc7⟩ := I7.out.n.cell
  have HDH := Lib.hid (deliver_high w.heap.size 1 c7 A7 1 (by decide) v7 hc7)
  clear hc7
  refine HDH.out.mono ?_
  rintro e v8 ⟨rfl, hb⟩
  have I8 := Lib.hid (I7.out.below hb)
  have B8 := Lib.hid (B7.out.below hb)
  have X8 := Lib.hid (B2g5.out.below hb)
  clear hb I7 B7 B2g5 HDH
  go_wp2_with (first
    | ((with_reducible refine gate_dst (N := 7) rfl ?_); refine box_event rfl (N := 7) rfl (run_allocM _ _ rfl _) ?_; intro g7 hg7 v9 hbox hbel; have B9 := Lib.hid (show Blk v9 g7 36 zcs from hbox); have BLg7 := Lib.hid hbel; have Hg7 := Lib.hid hg7; clear hbox hbel hg7)
    | ((with_reducible refine gate_store (t := 36) (p := 7) rfl ?_); refine wpList_store_mid rfl 36 _ _ rfl g7 0 zcs.toArray rfl rfl ?ht ?hi ?h1 ?_; (case ht => exact B9.out.there 33 (Nat.le_refl 33)); (case hi => exact infoMsg); (case h1 => exact all_oneCell_toArray zcs_one); have B2g7 := Lib.hid (B9.out.setAll zcs rfl); have Kg7 := Lib.hid (Keeps.setCells (S := fun k => k = g7) zcs 0 v9 (Keeps.refl _ _) (fun _ => rfl)); change wpList _ _ _ _ _ (v9.setCells g7 0 zcs); generalize v9.setCells g7 0 zcs = v10 at B2g7 Kg7 ⊢))
  have BM7 := Lib.hid (BLg7.out.trans (Kg7.out.below BLg7.out.size (fun k hk => by show ¬ k = g7; have := Hg7.out; omega)))
  have I10 := Lib.hid (I8.out.below BM7.out)
  have B10 := Lib.hid (B8.out.below BM7.out)
  have X10 := Lib.hid (X8.out.below BM7.out)
  clear BLg7 Kg7 Hg7 BM7 B2g7 B9 I8 B8 X8
  refine (HLO.out w.heap.size w.heap.size (some k4) [s] 0 rfl (show 1 ≤ 1099511627776 from by decide) v10 I10.out.n).mono ?_
  rintro e v11 ⟨rfl, hn11, hk11⟩
  have I11 := Lib.hid (show NetI w v11 (some k4) [] from I10.out.next hk11 hn11)
  have B11 := Lib.hid (blk_next I10.out.n B10.out hk11)
  have X11 := Lib.hid (blk_next I10.out.n X10.out hk11)
  have NL : Hid (∀ w A, EntsR w A bm.list) := Lib.hid (fun w A i e h => by simp [bm, Msg.zero] at h)
  have HLI := Lib.hid (fun w (h : NetAt w w.heap.size w.heap.size (some k4) []) => h)
  clear hn11 hk11 I10 B10 X10 HLI HDV HLO HE
  go_wp2_with (first
    | (go_at_call 11; refine (num_any _ _).mono ?_; rintro e w' ⟨rfl, rfl⟩)
    | ((with_reducible refine gate_dst (N := 38) rfl ?_); refine gate_guard (by rfl) ?_; refine wpList_load_mid rfl 36 _ rfl g5 0 rfl x _ ?hc Try.underlying36 rfl ?hi ?_; (case hc => exact X11.out.range); (case hi => rw [T5.out.len]; exact infoMsg))
    | ((with_reducible refine gate_dst (N := 39) rfl ?_); refine gate_guard (by rfl) ?_; refine wpList_load_mid rfl 36 _ rfl g2 0 rfl bcs _ ?hc Try.underlying36 rfl ?hi ?_; (case hc => exact B11.out.range); (case hi => rw [bcs_len]; exact infoMsg))
    | (go_at_call 16; refine (same_raw bm A5 none c5 0 x bcs T5.out bcs_at (by decide) _ (NL.out _ _) (NL.out _ _)).mono ?_; rintro e v12 ⟨rfl, hb⟩; have I12 := Lib.hid (I11.out.below hb); clear hb)
    | (go_at_call 27; refine (list_any w.heap.size w.heap.size (some k4) [] (by decide) (fun s h => by cases h) _ I12.out.n).mono ?_; rintro e v13 ⟨A13, c13, qs13, rfl, _, _, hb⟩; have I13 := Lib.hid (I12.out.below hb); clear hb))
  go_ret
  exact ⟨rfl, I13.out.kb⟩

end Go.Proofs.Ytibcadfpengacaa

-- NetJ
set_option linter.unusedVariables false
set_option linter.unusedSimpArgs false
namespace Go.Proofs.Ytibcadfpengacaa
open Go.RowKit Go.Lib Go.Proofs.YtibcadfpengacaaW.PrintWords Go.Proofs.YtibcadfpengacaaW.PrintMore Go.Proofs.YtibcadfpengacaaW.PrintLast

/-- A net made since w. -/
structure NetJ (w v : World) (N base : Nat) (g : Option Nat) (ss : List ByteArray) : Prop where
  kb : Below w.heap.size w v
  n : NetAt v N base g ss
  hb : w.heap.size ≤ base
  hN : w.heap.size ≤ N
  hs : base ≤ v.heap.size
theorem NetJ.next {w v v' : World} {N base : Nat} {g g' : Option Nat} {ss ss' : List ByteArray} (h : NetJ w v N base g ss) (hk : Keeps (fun k => k = N ∨ some k = g) v v') (hn : NetAt v' N base g' ss') : NetJ w v' N base g' ss' :=
  ⟨net_next h.kb h.n h.hb h.hN hk, hn, h.hb, h.hN, Nat.le_trans h.hs hk.size⟩
theorem NetJ.below {w v v' : World} {N base : Nat} {g : Option Nat} {ss : List ByteArray} (h : NetJ w v N base g ss) (hb : Below v.heap.size v v') : NetJ w v' N base g ss := ⟨h.kb.trans (hb.mono h.kb.size), h.n.below hb, h.hb, h.hN, Nat.le_trans h.hs hb.size⟩
end Go.Proofs.Ytibcadfpengacaa

-- NetK
set_option linter.unusedVariables false
set_option linter.unusedSimpArgs false
namespace Go.Proofs.Ytibcadfpengacaa
open Go.RowKit Go.Lib Go.Proofs.YtibcadfpengacaaW.PrintWords Go.Proofs.YtibcadfpengacaaW.PrintMore Go.Proofs.YtibcadfpengacaaW.PrintLast

/-- A step's cells. -/
def stcs (kind place : Int) (q : Qm) : List Value := .int .i64 kind :: .int .i64 place :: q.cs
def zst : List Value := .int .i64 0 :: .int .i64 0 :: zcs
theorem stcs_len (kind place : Int) (q : Qm) : (stcs kind place q).length = 35 := rfl
theorem stcs_one (kind place : Int) (q : Qm) : ∀ v ∈ stcs kind place q, v.oneCell' = true := fun v hv => by
  rcases List.mem_cons.1 hv with h | hv
  · subst h; rfl
  · rcases List.mem_cons.1 hv with h | hv
    · subst h; rfl
    · exact q.one v hv
theorem infoSt : (Try.prog.info? 63).map (·.size) = some 35 := by kernel_rfl
theorem run_allocS (ev : Operand → Value) (o : Oper) (ho : o.op = .alloc 63) (w : World) : (execOp ev o).run Try.prog w = .ok (.value (.pointer (some ⟨w.heap.size, 0, none⟩))) (w.alloc (.cells zst.toArray 63 (0, 0))) := by
  unfold execOp
  rw [ho]
  kernel_rfl
/-- The message in a step's block. -/
theorem Blk.stepMsg {w : World} {g : Nat} {kind place : Int} {q : Qm} (h : Blk w g 63 (stcs kind place q)) : w.rangeAt g 2 q.cs := fun j v hv => h.cell (2 + j) (by
  rw [Nat.add_comm]
  exact hv)

theorem EntsG.cap {w : World} {q : Qm} (h : EntsG w q) : q.m.list.length ≤ q.c := by
  rcases h with ⟨_, _, h2⟩ | ⟨L, _, h2, _⟩
  · rw [h2]; exact Nat.zero_le _
  · exact h2
/-- Both nets, made since w. -/
structure SW (w wr : World) (N R bN bR : Nat) (g : Option Nat) (A : Option Addr) (c : Nat) (ss : List ByteArray) (qs : List Qm) : Prop where
  kb : Below w.heap.size w wr
  n : NetAt wr N bN g ss
  r : RefN wr R bR A c qs
  n1 : w.heap.size ≤ bN
  n2 : w.heap.size ≤ N
  n3 : bN ≤ wr.heap.size
  r1 : w.heap.size ≤ bR
  r2 : w.heap.size ≤ R
  r3 : bR ≤ wr.heap.size
section
variable {w wr v : World} {N R bN bR : Nat} {g g' : Option Nat} {A A' : Option Addr} {c c' : Nat} {ss ss' : List ByteArray} {qs qs' : List Qm}
theorem SW.below (h : SW w wr N R bN bR g A c ss qs) (hb : Below wr.heap.size wr v) : SW w v N R bN bR g A c ss qs :=
  ⟨h.kb.trans (hb.mono h.kb.size), h.n.below hb, h.r.below hb, h.n1, h.n2, Nat.le_trans h.n3 hb.size, h.r1, h.r2, Nat.le_trans h.r3 hb.size⟩
theorem NetAt.apartRow (h : NetAt wr N bN g ss) {base : Nat} {e : TypeId} {size : Nat} {B : Option Addr} {n c : Nat} {xs : List Value} (ho : wr.ownsRow base e size (.slice B n c) n xs) (h1 : e ≠ 103) (h2 : e ≠ 9) : ∀ b, (Value.slice B n c).ownBlock = some b → b ≠ N ∧ g ≠ some b := by
  intro b hb
  rcases slice_cur ho with ⟨rfl, _⟩ | ⟨k, cur, rfl, hc⟩
  · cases hb
  · have e2 : k = b := by simpa [Value.ownBlock] using hb
    subst e2
    have hB : Blk wr k e cur.toList := by show wr.heap[k]? = _; rw [hc]
    have := h.apart hB h1 h2
    exact ⟨fun e => this.1 e.symm, this.2⟩
theorem NetAt.apartEnts (h : NetAt wr N bN g ss) {q : Qm} (hq : EntsG wr q) : ∀ b, q.A = some ⟨b, 0, none⟩ → b ≠ N ∧ g ≠ some b := by
  intro b hb
  rcases hq with ⟨h0, _⟩ | ⟨L, h1, _, cs, h3, _⟩
  · rw [h0] at hb; cases hb
  · rw [h1] at hb
    injection hb with hb
    injection hb with hb _ _
    subst hb
    have := h.apart h3 (by decide) (by decide)
    exact ⟨fun e => this.1 e.symm, this.2⟩
theorem SW.net (h : SW w wr N R bN bR g A c ss qs) (hk : Keeps (fun k => k = N ∨ some k = g) wr v) (hn : NetAt v N bN g' ss') : SW w v N R bN bR g' A c ss' qs := by
  refine ⟨net_next h.kb h.n h.n1 h.n2 hk, hn, h.r.keeps hk ?_ ?_ ?_, h.n1, h.n2, Nat.le_trans h.n3 hk.size, h.r1, h.r2, Nat.le_trans h.r3 hk.size⟩
  · have := h.n.apart h.r.b (by decide) (by decide)
    rintro (e | e)
    · exact this.1 e.symm
    · exact this.2 e.symm
  · intro b hb
    have := h.n.apartRow h.r.own (by decide) (by decide) b hb
    rintro (e | e)
    · exact this.1 e
    · exact this.2 e.symm
  · intro q hq b hb
    have := h.n.apartEnts (h.r.ents q hq).1 b hb
    rintro (e | e)
    · exact this.1 e
    · exact this.2 e.symm
theorem SW.ref (h : SW w wr N R bN bR g A c ss qs) (hk : Keeps (fun k => k = R ∨ (Value.slice A qs.length c).ownBlock = some k) wr v) (hr : RefN v R bR A' c' qs') : SW w v N R bN bR g A' c' ss qs' := by
  have h1 := h.n.apart h.r.b (by decide) (by decide)
  refine ⟨h.kb.trans (hk.below h.kb.size ?_), h.n.kept hk ?_ ?_, hr, h.n1, h.n2, Nat.le_trans h.n3 hk.size, h.r1, h.r2, Nat.le_trans h.r3 hk.size⟩
  · intro k hk2 e
    have h2 := h.r1
    have h3 := h.r2
    rcases e with e | e
    · omega
    · have := (h.r.own.lt k e).1
      omega
  · rintro (e | e)
    · exact h1.1 e
    · exact (h.n.apartRow h.r.own (by decide) (by decide) N e).1 rfl
  · rintro b hb (e | e)
    · subst e; exact h1.2 hb
    · exact (h.n.apartRow h.r.own (by decide) (by decide) b e).2 hb
end
theorem SW.ref_blk {w wr v : World} {N R bN bR : Nat} {g : Option Nat} {A : Option Addr} {c : Nat} {ss : List ByteArray} {qs : List Qm} (h : SW w wr N R bN bR g A c ss qs) (hk : Keeps (fun k => k = R ∨ (Value.slice A qs.length c).ownBlock = some k) wr v) {b : Nat} {t : TypeId} {cs : List Value} (hB : Blk wr b t cs) (h1 : 61 ≠ t) (h2 : ∀ k, (Value.slice A qs.length c).ownBlock = some k → k ≠ b) : Blk v b t cs :=
  hB.kept hk (by
    rintro (e | e)
    · exact h.r.b.apart hB h1 e.symm
    · exact h2 b e rfl)
/-- Another list is spoiled. -/
theorem SW.spoil {w wr v : World} {N R bN bR L : Nat} {g : Option Nat} {A : Option Addr} {c : Nat} {ss : List ByteArray} {qs : List Qm} {cs : List Value} (h : SW w wr N R bN bR g A c ss qs) (hL : Blk wr L 99 cs) (hw : w.heap.size ≤ L) (hn : ∀ q ∈ qs, q.A ≠ some ⟨L, 0, none⟩) (hk : Keeps (fun k => k = L) wr v) : SW w v N R bN bR g A c ss qs := by
  have h1 := h.n.apart hL (by decide) (by decide)
  refine ⟨h.kb.trans (hk.below h.kb.size (fun k h1 h2 => by omega)), h.n.kept hk h1.1 (fun b hb e => h1.2 (by rw [hb, show b = L from e])), h.r.keeps hk (h.r.b.apart hL (by decide)) (fun b hb e => ?_) (fun q hq b hb e => hn q hq (by rw [hb, show b = L from e])), h.n1, h.n2, Nat.le_trans h.n3 hk.size, h.r1, h.r2, Nat.le_trans h.r3 hk.size⟩
  exact hL.rowApart h.r.own (by decide) b hb e
/-- What is the same of both: the texts are the messages' bytes. -/
structure Same (ss : List ByteArray) (qs : List Qm) : Prop where
  ss : ss = qs.map (fun q => q.m.layS)
  val : ∀ q ∈ qs, q.m.Val
  len : qs.length ≤ 1024
theorem Same.dec {ss : List ByteArray} {qs : List Qm} (h : Same ss qs) : ss.map decM = qs.map Qm.m := by
  rw [h.ss, List.map_map]
  exact List.map_congr_left (fun q hq => (dec_layS q.m (h.val q hq)).1)
theorem Same.length {ss : List ByteArray} {qs : List Qm} (h : Same ss qs) : ss.length = qs.length := by rw [h.ss, List.length_map]
theorem Same.size {ss : List ByteArray} {qs : List Qm} (h : Same ss qs) : ∀ s ∈ ss, s.size ≤ 281474976710656 := fun s hs => by
  rw [h.ss] at hs
  obtain ⟨q, hq, rfl⟩ := List.mem_map.1 hs
  have := (layS_small2 q.m (h.val q hq)).1
  omega
theorem Same.small {ss : List ByteArray} {qs : List Qm} (h : Same ss qs) (ps : List Qm) (hm : ps.map Qm.m = qs.map Qm.m) (p : Qm) (hp : p ∈ ps) : p.m.list.length ≤ 64 ∧ ∀ e ∈ p.m.list, e.name.size ≤ 4096 := by
  have h1 : p.m ∈ qs.map Qm.m := by rw [← hm]; exact List.mem_map_of_mem hp
  obtain ⟨q, hq, e⟩ := List.mem_map.1 h1
  rw [← e]
  exact val_small (h.val q hq)
theorem Same.add {ss : List ByteArray} {qs : List Qm} (h : Same ss qs) (q : Qm) (hq : q.m.Val) (hl : qs.length < 1024) : Same (ss ++ [q.m.layS]) (qs ++ [q]) :=
  ⟨by rw [h.ss, List.map_append]; rfl, fun p hp => by
    rcases List.mem_append.1 hp with hp | hp
    · exact h.val p hp
    · rw [List.mem_singleton] at hp; subst hp; exact hq, by simp; omega⟩
theorem Same.erase {ss : List ByteArray} {qs : List Qm} (h : Same ss qs) (i : Nat) : Same (ss.eraseIdx i) (qs.eraseIdx i) :=
  ⟨by rw [h.ss, List.eraseIdx_eq_take_drop_succ, List.eraseIdx_eq_take_drop_succ, List.map_append, List.map_take, List.map_drop], fun p hp => h.val p (List.mem_of_mem_eraseIdx hp), Nat.le_trans (List.length_eraseIdx_le ..) h.len⟩

end Go.Proofs.Ytibcadfpengacaa
