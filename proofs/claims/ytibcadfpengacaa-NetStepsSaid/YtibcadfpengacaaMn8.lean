/- NetSteps: for every slice of steps the law returns true, and the steps read as before: step by step the program's net and the document's answer the same and hold the same messages. No condition. -/
import Derived.Test.YtibcadfpengacaaMn7
import Derived.Deep.CutBlock
import Derived.Test.YtibcadfpengacaaMn6
import Derived.Test.YtibcadfpengacaaRows
import Derived.WalkKit
import Derived.ProofKit
import Derived.OpenShut
import Derived.ShutString
import Derived.ChangeOld
import Derived.Below
import Derived.SizedLaws
-- NetM
set_option linter.unusedVariables false
set_option linter.unusedSimpArgs false
namespace Go.Proofs.Ytibcadfpengacaa
open Go.RowKit Go.Lib Go.Proofs.YtibcadfpengacaaW.PrintWords Go.Proofs.YtibcadfpengacaaW.PrintMore Go.Proofs.YtibcadfpengacaaW.PrintLast
attribute [local go_sem ↓] ldM

/-- A step that is read. -/
def StR (w : World) (A : Option Addr) (k : Nat) (kind place : Int) (q : Qm) : Prop :=
  ∃ b o, A = some ⟨b, o, none⟩ ∧ w.rangeAt b (o + k * 35) (stcs kind place q) ∧ I64 kind ∧ I64 place ∧ q.m.Ok ∧ q.m.list.length ≤ q.c ∧ q.m.list.length + 2 < 4398046511104 ∧ EntsR w q.A q.m.list ∧ (q.m.list = [] ∨ q.A.isSome = true)
theorem entsG_copy {w w' : World} {m : Msg} {A : Option Addr} {c : Nat} (h : (A = none ∧ c = 0 ∧ m.list = []) ∨ ∃ L, A = some ⟨L, 0, none⟩ ∧ w.heap.size ≤ L ∧ m.list.length ≤ c ∧ EntsB w' L m.list) : EntsG w' ⟨m, A, c⟩ ∧ ∀ b, A = some ⟨b, 0, none⟩ → w.heap.size ≤ b := by
  rcases h with ⟨h1, h2, h3⟩ | ⟨L, h1, h2, h3, h4⟩
  · exact ⟨.inl ⟨h1, h2, h3⟩, fun b hb => by rw [h1] at hb; cases hb⟩
  · refine ⟨.inr ⟨L, h1, h3, h4⟩, fun b hb => ?_⟩
    rw [h1] at hb
    injection hb with hb
    injection hb with hb _ _
    omega
/-- What stands between two steps. -/
def StI (w wr : World) (N R bN bR : Nat) : Prop := ∃ g A c ss qs, SW w wr N R bN bR g A c ss qs ∧ Same ss qs

set_option maxHeartbeats 40000000 in
set_option maxRecDepth 100000 in
theorem steps_walk (A0 : Option Addr) (n c0 : Nat) (hn : n ≤ 281474976710656) (w : World) (HK : Hid (∀ k, k < n → ∃ kind place q, StR w A0 k kind place q)) :
    Calls Try.prog 6 #[.slice A0 n c0] w fun e w' => e = .returned (.bool true) ∧ Below w.heap.size w w' := by
  go_enter Try.func6, Try.ntmps6
  go_wp2_with fail
  refine (netNew_any w).mono ?_
  rintro e v0 ⟨rfl, hv0⟩
  have HB0 : Hid (Below w.heap.size w v0) := Lib.hid (by rw [hv0]; exact (Below.refl _ _).alloc (Nat.le_refl _) _)
  have HN0 : Hid (NetAt v0 w.heap.size w.heap.size none []) := Lib.hid (by rw [hv0]; exact NetAt.new w)
  clear hv0
  go_wp2_with fail
  have S0 : Hid (StI w (v0.alloc (.cells #[.slice none 0 0] 61)) w.heap.size v0.heap.size w.heap.size v0.heap.size) := Lib.hid ⟨none, none, 0, [], [],
    ⟨HB0.out.alloc HB0.out.size _, HN0.out.below ((Below.refl _ _).alloc (Nat.le_refl _) _), RefN.new v0, Nat.le_refl _, Nat.le_refl _, by have := HB0.out.size; simp; omega, HB0.out.size, HB0.out.size, by simp⟩, ⟨rfl, (fun q h => by cases h), Nat.zero_le _⟩⟩
  clear HB0 HN0
  generalize hN : w.heap.size = N at S0 ⊢
  generalize v0.heap.size = R at *
  generalize v0.alloc (.cells #[.slice none 0 0] 61) = v1 at *
  go_loopw [5] (fun i wr => ∃ k, k ≤ n ∧ k ≤ 300 ∧ i = .int .i64 (k : Nat) ∧ StI w wr N R N R) (fun i _ => 300 - (RowKit.intOf i).toNat)
  case atStart => exact ⟨0, Nat.zero_le _, Nat.zero_le _, rfl, S0.out⟩
  case round =>
    obtain ⟨k, hk, hk3, rfl, hS⟩ := hrel
    have S := Lib.hid hS
    clear hS S0
    by_cases hlt : k < n ∧ k < 300
    · obtain ⟨hlt, hl3⟩ := hlt
      obtain ⟨kind, place, q, b, o, rfl, hrg, hkd, hpl, hok, hcap, hlen, hen, hnil⟩ := HK.out k hlt
      have k1 : (k : Int) < (n : Int) := by omega
      have k2 : (k : Int) < 300 := by omega
      have kd : decide ((k : Int) < (n : Int)) = true := by simpa using k1
      obtain ⟨g, A, c, ss, qs, hSW, hSM⟩ := S.out
      have hrg1 := Lib.hid (rangeAt_below hrg hSW.kb)
      have HEN := Lib.hid hen; have HOK := Lib.hid hok; have HPL := Lib.hid hpl; have HCAP := Lib.hid hcap; have HLEN := Lib.hid hlen; have HNIL := Lib.hid hnil
      have SW0 := Lib.hid hSW; have SM := Lib.hid hSM
      have XL := Lib.hid (stcs_len kind place q); have XO := Lib.hid (stcs_one kind place q)
      clear hrg hok hpl hcap hlen hen hnil hSW hSM
      obtain ⟨x, hx⟩ : ∃ x, x = stcs kind place q := ⟨_, rfl⟩
      rw [← hx] at XL XO hrg1
      have Hx := Lib.hid hx
      clear hx
      go_upto_block 2 with (first
        | ((with_reducible refine gate_dst (N := 35) rfl ?_); refine wpList_load_mid rfl 63 _ rfl b (o + k * 35) ?hp x _ ?hc Try.underlying63 rfl ?hi ?_; (case hp => rfl); (case hc => exact hrg1.out); (case hi => rw [XL.out]; exact infoSt))
        | ((with_reducible refine gate_dst (N := 6) rfl ?_); refine box_event rfl (N := 6) rfl (run_allocS _ _ rfl _) ?_; intro gs hgs v2 hbox hbel; have Bgs := Lib.hid (show Blk v2 gs 63 zst from hbox); have BLgs := Lib.hid hbel; have Hgs := Lib.hid hgs; clear hbox hbel hgs)
        | ((with_reducible refine gate_store (t := 63) (p := 6) rfl ?_); refine wpList_store_mid rfl 63 _ _ rfl gs 0 x.toArray rfl rfl ?ht ?hi ?h1 ?_; (case ht => exact Bgs.out.there _ (by rw [List.size_toArray, XL.out]; exact Nat.le_refl 35)); (case hi => rw [List.size_toArray, XL.out]; exact infoSt); (case h1 => exact all_oneCell_toArray XO.out); have B2gs := Lib.hid (Bgs.out.setAll x (by rw [XL.out]; rfl)); have Kgs := Lib.hid (Keeps.setCells (S := fun k => k = gs) x 0 v2 (Keeps.refl _ _) (fun _ => rfl)); change wpList _ _ _ _ _ (v2.setCells gs 0 x); generalize v2.setCells gs 0 x = v3 at B2gs Kgs ⊢; have BMgs := Lib.hid (BLgs.out.trans (Kgs.out.below BLgs.out.size (fun k hk => by show ¬ k = gs; have := Hgs.out; omega))); clear Bgs BLgs Kgs Hgs; have Bs : Hid (Blk v3 gs 63 (stcs kind place q)) := Lib.hid (Hx.out ▸ B2gs.out); have SW3 := Lib.hid (SW0.out.below BMgs.out); have s0 := Bs.out.cell 0 rfl; have s1 := Bs.out.cell 1 rfl; clear B2gs BMgs SW0))
      go_cut [] (fun wx => StI w wx N R N R)
      case first =>
        have cN := SW3.out.n.cell
        obtain ⟨AN, cN', hcN⟩ := cN
        have hcR := SW3.out.r.b.cell 0 rfl
        have HCN := Lib.hid hcN; have HCR := Lib.hid hcR
        have LL := Lib.hid SM.out.length
        have LQ := Lib.hid SM.out.len
        have ZZ := Lib.hid (MsgAt.of Msg.zero none 0)
        clear hcN hcR hrg1 Hx XL XO S
        by_cases h2 : kind = 2
        · subst h2
          rcases (show place < 0 ∨ (ss.length : Int) ≤ place ∨ ∃ i : Nat, place = (i : Int) ∧ i < ss.length by
            by_cases h1 : place < 0
            · exact .inl h1
            · by_cases h2 : (ss.length : Int) ≤ place
              · exact .inr (.inl h2)
              · exact .inr (.inr ⟨place.toNat, by omega, by omega⟩)) with hp | hp | ⟨i, rfl, hi⟩
          · have HD := Lib.hid (deliver_low N ss.length cN' AN place hp v3 HCN.out)
            have HR := Lib.hid (fun w h => rdeliver_low R qs.length c A place hp w h)
            clear hp
            go_wp2_with fail
            refine HD.out.mono ?_
            rintro e v4 ⟨rfl, hb⟩
            have B4 := Lib.hid hb
            clear hb HD s0
            have t1 := (Bs.out.below B4.out).cell 1 rfl
            clear s1
            go_wp2_with (first
              | ((with_reducible refine gate_dst (N := 9) rfl ?_); refine box_event rfl (N := 9) rfl (run_allocM _ _ rfl _) ?_; intro g9 hg9 v5 hbox hbel; have Bg9 := Lib.hid (show Blk v5 g9 36 zcs from hbox); have BLg9 := Lib.hid hbel; have Hg9 := Lib.hid hg9; clear hbox hbel hg9)
              | ((with_reducible refine gate_store (t := 36) (p := 9) rfl ?_); refine wpList_store_mid rfl 36 _ _ rfl g9 0 zcs.toArray rfl rfl ?ht ?hi ?h1 ?_; (case ht => exact Bg9.out.there 33 (Nat.le_refl 33)); (case hi => exact infoMsg); (case h1 => exact all_oneCell_toArray zcs_one); have B2g9 := Lib.hid (Bg9.out.setAll zcs rfl); have Kg9 := Lib.hid (Keeps.setCells (S := fun k => k = g9) zcs 0 v5 (Keeps.refl _ _) (fun _ => rfl)); change wpList _ _ _ _ _ (v5.setCells g9 0 zcs); generalize v5.setCells g9 0 zcs = v6 at B2g9 Kg9 ⊢; have BMg9 := Lib.hid (BLg9.out.trans (Kg9.out.below BLg9.out.size (fun k hk => by show ¬ k = g9; have := Hg9.out; omega))); clear Bg9 BLg9 Kg9 Hg9; have B6 := Lib.hid (B4.out.trans (BMg9.out.mono B4.out.size)); have u1 := (Bs.out.below B6.out).cell 1 rfl; clear t1 BMg9 B4))
            refine (HR.out v6 ((B6.out.cell (p := ⟨R, 0, none⟩) SW3.out.r.b.lt).trans HCR.out)).mono ?_
            rintro e v7 ⟨rfl, hb⟩
            have B7 := Lib.hid (B6.out.trans (hb.mono B6.out.size))
            have C7 := Lib.hid (B2g9.out.below hb)
            clear hb HR u1 B2g9
            go_wp2_with (first
              | ((with_reducible refine gate_dst (N := 11) rfl ?_); refine box_event rfl (N := 11) rfl (run_allocM _ _ rfl _) ?_; intro g11 hg11 v8 hbox hbel; have Bg11 := Lib.hid (show Blk v8 g11 36 zcs from hbox); have BLg11 := Lib.hid hbel; have Hg11 := Lib.hid hg11; clear hbox hbel hg11)
              | ((with_reducible refine gate_store (t := 36) (p := 11) rfl ?_); refine wpList_store_mid rfl 36 _ _ rfl g11 0 zcs.toArray rfl rfl ?ht ?hi ?h1 ?_; (case ht => exact Bg11.out.there 33 (Nat.le_refl 33)); (case hi => exact infoMsg); (case h1 => exact all_oneCell_toArray zcs_one); have B2g11 := Lib.hid (Bg11.out.setAll zcs rfl); have Kg11 := Lib.hid (Keeps.setCells (S := fun k => k = g11) zcs 0 v8 (Keeps.refl _ _) (fun _ => rfl)); change wpList _ _ _ _ _ (v8.setCells g11 0 zcs); generalize v8.setCells g11 0 zcs = v9 at B2g11 Kg11 ⊢; have BMg11 := Lib.hid (BLg11.out.trans (Kg11.out.below BLg11.out.size (fun k hk => by show ¬ k = g11; have := Hg11.out; omega))); clear Bg11 BLg11 Kg11 Hg11; have B9 := Lib.hid (B7.out.trans (BMg11.out.mono B7.out.size)); have C9 := Lib.hid (C7.out.below BMg11.out); clear BMg11 B7 C7)
              | ((with_reducible refine gate_dst (N := 93) rfl ?_); refine wpList_load_mid rfl 36 _ rfl g9 0 rfl zcs _ ?hc Try.underlying36 rfl ?hi ?_; (case hc => exact C9.out.range); (case hi => exact infoMsg))
              | ((with_reducible refine gate_dst (N := 94) rfl ?_); refine wpList_load_mid rfl 36 _ rfl g11 0 rfl zcs _ ?hc Try.underlying36 rfl ?hi ?_; (case hc => exact B2g11.out.range); (case hi => exact infoMsg)))
            refine (same_raw Msg.zero none none 0 0 zcs zcs ZZ.out ZZ.out (by decide) v9 (fun i e h => by simp [Msg.zero] at h) (fun i e h => by simp [Msg.zero] at h)).mono ?_
            rintro e v10 ⟨rfl, hb⟩
            have B10 := Lib.hid (B9.out.trans (hb.mono B9.out.size))
            clear hb B9 C9
            go_wp2_with (go_at_call 11; refine (num_any _ _).mono ?_; rintro e w' ⟨rfl, rfl⟩)
            go_meet
            exact ⟨g, A, c, ss, qs, SW3.out.below B10.out, SM.out⟩
          · have HD := Lib.hid (deliver_high N ss.length cN' AN place hp v3 HCN.out)
            have HR := Lib.hid (fun w h => rdeliver_high R qs.length c A place (by rw [← LL.out]; exact hp) w h)
            clear hp
            go_wp2_with fail
            refine HD.out.mono ?_
            rintro e v4 ⟨rfl, hb⟩
            have B4 := Lib.hid hb
            clear hb HD s0
            have t1 := (Bs.out.below B4.out).cell 1 rfl
            clear s1
            go_wp2_with (first
              | ((with_reducible refine gate_dst (N := 9) rfl ?_); refine box_event rfl (N := 9) rfl (run_allocM _ _ rfl _) ?_; intro g9 hg9 v5 hbox hbel; have Bg9 := Lib.hid (show Blk v5 g9 36 zcs from hbox); have BLg9 := Lib.hid hbel; have Hg9 := Lib.hid hg9; clear hbox hbel hg9)
              | ((with_reducible refine gate_store (t := 36) (p := 9) rfl ?_); refine wpList_store_mid rfl 36 _ _ rfl g9 0 zcs.toArray rfl rfl ?ht ?hi ?h1 ?_; (case ht => exact Bg9.out.there 33 (Nat.le_refl 33)); (case hi => exact infoMsg); (case h1 => exact all_oneCell_toArray zcs_one); have B2g9 := Lib.hid (Bg9.out.setAll zcs rfl); have Kg9 := Lib.hid (Keeps.setCells (S := fun k => k = g9) zcs 0 v5 (Keeps.refl _ _) (fun _ => rfl)); change wpList _ _ _ _ _ (v5.setCells g9 0 zcs); generalize v5.setCells g9 0 zcs = v6 at B2g9 Kg9 ⊢; have BMg9 := Lib.hid (BLg9.out.trans (Kg9.out.below BLg9.out.size (fun k hk => by show ¬ k = g9; have := Hg9.out; omega))); clear Bg9 BLg9 Kg9 Hg9; have B6 := Lib.hid (B4.out.trans (BMg9.out.mono B4.out.size)); have u1 := (Bs.out.below B6.out).cell 1 rfl; clear t1 BMg9 B4))
            refine (HR.out v6 ((B6.out.cell (p := ⟨R, 0, none⟩) SW3.out.r.b.lt).trans HCR.out)).mono ?_
            rintro e v7 ⟨rfl, hb⟩
            have B7 := Lib.hid (B6.out.trans (hb.mono B6.out.size))
            have C7 := Lib.hid (B2g9.out.below hb)
            clear hb HR u1 B2g9
            go_wp2_with (first
              | ((with_reducible refine gate_dst (N := 11) rfl ?_); refine box_event rfl (N := 11) rfl (run_allocM _ _ rfl _) ?_; intro g11 hg11 v8 hbox hbel; have Bg11 := Lib.hid (show Blk v8 g11 36 zcs from hbox); have BLg11 := Lib.hid hbel; have Hg11 := Lib.hid hg11; clear hbox hbel hg11)
              | ((with_reducible refine gate_store (t := 36) (p := 11) rfl ?_); refine wpList_store_mid rfl 36 _ _ rfl g11 0 zcs.toArray rfl rfl ?ht ?hi ?h1 ?_; (case ht => exact Bg11.out.there 33 (Nat.le_refl 33)); (case hi => exact infoMsg); (case h1 => exact all_oneCell_toArray zcs_one); have B2g11 := Lib.hid (Bg11.out.setAll zcs rfl); have Kg11 := Lib.hid (Keeps.setCells (S := fun k => k = g11) zcs 0 v8 (Keeps.refl _ _) (fun _ => rfl)); change wpList _ _ _ _ _ (v8.setCells g11 0 zcs); generalize v8.setCells g11 0 zcs = v9 at B2g11 Kg11 ⊢; have BMg11 := Lib.hid (BLg11.out.trans (Kg11.out.below BLg11.out.size (fun k hk => by show ¬ k = g11; have := Hg11.out; omega))); clear Bg11 BLg11 Kg11 Hg11; have B9 := Lib.hid (B7.out.trans (BMg11.out.mono B7.out.size)); have C9 := Lib.hid (C7.out.below BMg11.out); clear BMg11 B7 C7)
              | ((with_reducible refine gate_dst (N := 93) rfl ?_); refine wpList_load_mid rfl 36 _ rfl g9 0 rfl zcs _ ?hc Try.underlying36 rfl ?hi ?_; (case hc => exact C9.out.range); (case hi => exact infoMsg))
              | ((with_reducible refine gate_dst (N := 94) rfl ?_); refine wpList_load_mid rfl 36 _ rfl g11 0 rfl zcs _ ?hc Try.underlying36 rfl ?hi ?_; (case hc => exact B2g11.out.range); (case hi => exact infoMsg)))
            refine (same_raw Msg.zero none none 0 0 zcs zcs ZZ.out ZZ.out (by decide) v9 (fun i e h => by simp [Msg.zero] at h) (fun i e h => by simp [Msg.zero] at h)).mono ?_
            rintro e v10 ⟨rfl, hb⟩
            have B10 := Lib.hid (B9.out.trans (hb.mono B9.out.size))
            clear hb B9 C9
            go_wp2_with (go_at_call 11; refine (num_any _ _).mono ?_; rintro e w' ⟨rfl, rfl⟩)
            go_meet
            exact ⟨g, A, c, ss, qs, SW3.out.below B10.out, SM.out⟩
          · obtain ⟨q', hq'⟩ : ∃ q', qs[i]? = some q' := ⟨qs[i]'(by rw [← LL.out]; exact hi), List.getElem?_eq_getElem (by rw [← LL.out]; exact hi)⟩
            have hv' := SM.out.val q' (List.mem_of_getElem? hq')
            have hsi : ss[i]? = some q'.m.layS := by rw [SM.out.ss, List.getElem?_map, hq']; rfl
            have hdq := dec_layS q'.m hv'
            have hsz := (layS_small2 q'.m hv').1
            have HD := deliver_ok N N g ss i q'.m.layS hsi (by omega) (by rw [LL.out]; have := LQ.out; omega) v3 SW3.out.n
            rw [hdq.1, hdq.2] at HD
            replace HD := Lib.hid HD
            have HR := Lib.hid (fun w (h : RefN w R R A c qs) hb => rdeliver_ok R R c A qs i q' hq' (by have := LQ.out; omega) w h hb)
            have HV := Lib.hid (val_small hv')
            have TQ := Lib.hid q'.at
            have HQM := Lib.hid (SW3.out.r.ents q' (List.mem_of_getElem? hq')).1
            have SME := Lib.hid (SM.out.erase i)
            clear hv' hsi hdq hsz hq' hi
            unfold RDelPost at HR
            generalize q'.cs = x11 at *
            go_wp2_with fail
            refine HD.out.mono ?_
            rintro e v4 ⟨A9, c9, rfl, hn4, ho4, hk4⟩
            have T9 := Lib.hid (MsgAt.of q'.m A9 c9)
            have SW4 := Lib.hid (SW3.out.net hk4 hn4)
            have Bs4 := Lib.hid (blk_next SW3.out.n Bs.out hk4)
            have E4 := Lib.hid ho4.g
            have Q4 := Lib.hid (HQM.out.keeps hk4 (fun b hb e => by
              have h := SW3.out.n.apartEnts HQM.out b hb
              rcases e with e | e
              · exact h.1 e
              · exact h.2 e.symm))
            generalize q'.m.vs (.slice A9 q'.m.list.length c9) = x9 at *
            clear hn4 ho4 hk4 HD HQM s0 s1
            go_wp2_with (first
              | ((with_reducible refine gate_dst (N := 9) rfl ?_); refine box_event rfl (N := 9) rfl (run_allocM _ _ rfl _) ?_; intro g9 hg9 v5 hbox hbel; have Bg9 := Lib.hid (show Blk v5 g9 36 zcs from hbox); have BLg9 := Lib.hid hbel; have Hg9 := Lib.hid hg9; clear hbox hbel hg9)
              | ((with_reducible refine gate_store (t := 36) (p := 9) rfl ?_); refine wpList_store_mid rfl 36 _ _ rfl g9 0 x9.toArray rfl rfl ?ht ?hi ?h1 ?_; (case ht => exact Bg9.out.there _ (by rw [List.size_toArray, T9.out.len]; exact Nat.le_refl 33)); (case hi => rw [List.size_toArray, T9.out.len]; exact infoMsg); (case h1 => exact all_oneCell_toArray T9.out.one); have B2g9 := Lib.hid (Bg9.out.setAll x9 (by rw [T9.out.len]; rfl)); have Kg9 := Lib.hid (Keeps.setCells (S := fun k => k = g9) x9 0 v5 (Keeps.refl _ _) (fun _ => rfl)); change wpList _ _ _ _ _ (v5.setCells g9 0 x9); generalize v5.setCells g9 0 x9 = v6 at B2g9 Kg9 ⊢; have BMg9 := Lib.hid (BLg9.out.trans (Kg9.out.below BLg9.out.size (fun k hk => by show ¬ k = g9; have := Hg9.out; omega))); clear Bg9 BLg9 Kg9 Hg9; have SW6 := Lib.hid (SW4.out.below BMg9.out); have E6 := Lib.hid (E4.out.below BMg9.out); have Q6 := Lib.hid (Q4.out.below BMg9.out); have Bs6 := Lib.hid (Bs4.out.below BMg9.out); have u1 := Bs6.out.cell 1 rfl; clear BMg9 SW4 E4 Q4 Bs4))
            refine (HR.out v6 SW6.out.r SW6.out.r3).mono ?_
            rintro e v7 ⟨rfl, A', c', hr7, hk7⟩
            have SW7 := Lib.hid (SW6.out.ref (hk7.mono (fun b _ h => .inl h)) hr7)
            have C7 := Lib.hid (B2g9.out.kept hk7 (fun e => SW6.out.r.b.apart B2g9.out (by decide) e.symm))
            have E7 := Lib.hid (E6.out.keeps hk7 (fun b hb e => E6.out.apart SW6.out.r.b (by decide) (by rw [hb, show b = R from e])))
            have Q7 := Lib.hid (Q6.out.keeps hk7 (fun b hb e => Q6.out.apart SW6.out.r.b (by decide) (by rw [hb, show b = R from e])))
            clear hr7 hk7 HR u1 B2g9 SW6 E6 Q6 Bs6
            go_wp2_with (first
              | ((with_reducible refine gate_dst (N := 11) rfl ?_); refine box_event rfl (N := 11) rfl (run_allocM _ _ rfl _) ?_; intro g11 hg11 v8 hbox hbel; have Bg11 := Lib.hid (show Blk v8 g11 36 zcs from hbox); have BLg11 := Lib.hid hbel; have Hg11 := Lib.hid hg11; clear hbox hbel hg11)
              | ((with_reducible refine gate_store (t := 36) (p := 11) rfl ?_); refine wpList_store_mid rfl 36 _ _ rfl g11 0 x11.toArray rfl rfl ?ht ?hi ?h1 ?_; (case ht => exact Bg11.out.there _ (by rw [List.size_toArray, TQ.out.len]; exact Nat.le_refl 33)); (case hi => rw [List.size_toArray, TQ.out.len]; exact infoMsg); (case h1 => exact all_oneCell_toArray TQ.out.one); have B2g11 := Lib.hid (Bg11.out.setAll x11 (by rw [TQ.out.len]; rfl)); have Kg11 := Lib.hid (Keeps.setCells (S := fun k => k = g11) x11 0 v8 (Keeps.refl _ _) (fun _ => rfl)); change wpList _ _ _ _ _ (v8.setCells g11 0 x11); generalize v8.setCells g11 0 x11 = v9 at B2g11 Kg11 ⊢; have BMg11 := Lib.hid (BLg11.out.trans (Kg11.out.below BLg11.out.size (fun k hk => by show ¬ k = g11; have := Hg11.out; omega))); clear Bg11 BLg11 Kg11 Hg11; have SW9 := Lib.hid (SW7.out.below BMg11.out); have C9 := Lib.hid (C7.out.below BMg11.out); have E9 := Lib.hid (E7.out.below BMg11.out); have Q9 := Lib.hid (Q7.out.below BMg11.out); clear BMg11 SW7 C7 E7 Q7)
              | ((with_reducible refine gate_dst (N := 93) rfl ?_); refine wpList_load_mid rfl 36 _ rfl g9 0 rfl x9 _ ?hc Try.underlying36 rfl ?hi ?_; (case hc => exact C9.out.range); (case hi => rw [T9.out.len]; exact infoMsg))
              | ((with_reducible refine gate_dst (N := 94) rfl ?_); refine wpList_load_mid rfl 36 _ rfl g11 0 rfl x11 _ ?hc Try.underlying36 rfl ?hi ?_; (case hc => exact B2g11.out.range); (case hi => rw [TQ.out.len]; exact infoMsg)))
            refine (same_raw q'.m A9 q'.A c9 q'.c x9 x11 T9.out TQ.out (by have := HV.out.1; omega) v9 E9.out.reads Q9.out.reads).mono ?_
            rintro e v10 ⟨rfl, hb⟩
            have SW10 := Lib.hid (SW9.out.below hb)
            clear hb SW9 C9 E9 Q9
            go_wp2_with (go_at_call 11; refine (num_any _ _).mono ?_; rintro e w' ⟨rfl, rfl⟩)
            go_meet
            exact ⟨g, A', c', ss.eraseIdx i, qs.eraseIdx i, SW10.out, SME.out⟩
        by_cases h3 : kind = 3
        · subst h3
          rcases (show place < 0 ∨ (ss.length : Int) ≤ place ∨ ∃ i : Nat, place = (i : Int) ∧ i < ss.length by
            by_cases h1 : place < 0
            · exact .inl h1
            · by_cases h2 : (ss.length : Int) ≤ place
              · exact .inr (.inl h2)
              · exact .inr (.inr ⟨place.toNat, by omega, by omega⟩)) with hp | hp | ⟨i, rfl, hi⟩
          · have HD := Lib.hid (lose_low N ss.length cN' AN place hp v3 HCN.out)
            have HR := Lib.hid (fun w h => rdeliver_low R qs.length c A place hp w h)
            clear hp
            go_wp2_with fail
            refine HD.out.mono ?_
            rintro e v4 ⟨rfl, hb⟩
            have B4 := Lib.hid hb
            clear hb HD s0
            have t1 := (Bs.out.below B4.out).cell 1 rfl
            clear s1
            go_wp2_with fail
            refine (HR.out v4 ((B4.out.cell (p := ⟨R, 0, none⟩) SW3.out.r.b.lt).trans HCR.out)).mono ?_
            rintro e v5 ⟨rfl, hb⟩
            have B5 := Lib.hid (B4.out.trans (hb.mono B4.out.size))
            clear hb HR t1
            go_wp2_with (first
              | ((with_reducible refine gate_dst (N := 14) rfl ?_); refine box_event rfl (N := 14) rfl (run_allocM _ _ rfl _) ?_; intro g14 hg14 v6 hbox hbel; have Bg14 := Lib.hid (show Blk v6 g14 36 zcs from hbox); have BLg14 := Lib.hid hbel; have Hg14 := Lib.hid hg14; clear hbox hbel hg14)
              | ((with_reducible refine gate_store (t := 36) (p := 14) rfl ?_); refine wpList_store_mid rfl 36 _ _ rfl g14 0 zcs.toArray rfl rfl ?ht ?hi ?h1 ?_; (case ht => exact Bg14.out.there 33 (Nat.le_refl 33)); (case hi => exact infoMsg); (case h1 => exact all_oneCell_toArray zcs_one); have B2g14 := Lib.hid (Bg14.out.setAll zcs rfl); have Kg14 := Lib.hid (Keeps.setCells (S := fun k => k = g14) zcs 0 v6 (Keeps.refl _ _) (fun _ => rfl)); change wpList _ _ _ _ _ (v6.setCells g14 0 zcs); generalize v6.setCells g14 0 zcs = v7 at B2g14 Kg14 ⊢; have BMg14 := Lib.hid (BLg14.out.trans (Kg14.out.below BLg14.out.size (fun k hk => by show ¬ k = g14; have := Hg14.out; omega))); clear Bg14 BLg14 Kg14 Hg14; have B7 := Lib.hid (B5.out.trans (BMg14.out.mono B5.out.size)); clear BMg14 B5)
              | (go_at_call 11; refine (num_any _ _).mono ?_; rintro e w' ⟨rfl, rfl⟩))
            go_meet
            exact ⟨g, A, c, ss, qs, SW3.out.below B7.out, SM.out⟩
          · have HD := Lib.hid (lose_high N ss.length cN' AN place hp v3 HCN.out)
            have HR := Lib.hid (fun w h => rdeliver_high R qs.length c A place (by rw [← LL.out]; exact hp) w h)
            clear hp
            go_wp2_with fail
            refine HD.out.mono ?_
            rintro e v4 ⟨rfl, hb⟩
            have B4 := Lib.hid hb
            clear hb HD s0
            have t1 := (Bs.out.below B4.out).cell 1 rfl
            clear s1
            go_wp2_with fail
            refine (HR.out v4 ((B4.out.cell (p := ⟨R, 0, none⟩) SW3.out.r.b.lt).trans HCR.out)).mono ?_
            rintro e v5 ⟨rfl, hb⟩
            have B5 := Lib.hid (B4.out.trans (hb.mono B4.out.size))
            clear hb HR t1
            go_wp2_with (first
              | ((with_reducible refine gate_dst (N := 14) rfl ?_); refine box_event rfl (N := 14) rfl (run_allocM _ _ rfl _) ?_; intro g14 hg14 v6 hbox hbel; have Bg14 := Lib.hid (show Blk v6 g14 36 zcs from hbox); have BLg14 := Lib.hid hbel; have Hg14 := Lib.hid hg14; clear hbox hbel hg14)
              | ((with_reducible refine gate_store (t := 36) (p := 14) rfl ?_); refine wpList_store_mid rfl 36 _ _ rfl g14 0 zcs.toArray rfl rfl ?ht ?hi ?h1 ?_; (case ht => exact Bg14.out.there 33 (Nat.le_refl 33)); (case hi => exact infoMsg); (case h1 => exact all_oneCell_toArray zcs_one); have B2g14 := Lib.hid (Bg14.out.setAll zcs rfl); have Kg14 := Lib.hid (Keeps.setCells (S := fun k => k = g14) zcs 0 v6 (Keeps.refl _ _) (fun _ => rfl)); change wpList _ _ _ _ _ (v6.setCells g14 0 zcs); generalize v6.setCells g14 0 zcs = v7 at B2g14 Kg14 ⊢; have BMg14 := Lib.hid (BLg14.out.trans (Kg14.out.below BLg14.out.size (fun k hk => by show ¬ k = g14; have := Hg14.out; omega))); clear Bg14 BLg14 Kg14 Hg14; have B7 := Lib.hid (B5.out.trans (BMg14.out.mono B5.out.size)); clear BMg14 B5)
              | (go_at_call 11; refine (num_any _ _).mono ?_; rintro e w' ⟨rfl, rfl⟩))
            go_meet
            exact ⟨g, A, c, ss, qs, SW3.out.below B7.out, SM.out⟩
          · obtain ⟨q', hq'⟩ : ∃ q', qs[i]? = some q' := ⟨qs[i]'(by rw [← LL.out]; exact hi), List.getElem?_eq_getElem (by rw [← LL.out]; exact hi)⟩
            have hv' := SM.out.val q' (List.mem_of_getElem? hq')
            have hsi : ss[i]? = some q'.m.layS := by rw [SM.out.ss, List.getElem?_map, hq']; rfl
            have hdq := dec_layS q'.m hv'
            have hsz := (layS_small2 q'.m hv').1
            have HD := lose_ok N N g ss i q'.m.layS hsi (by omega) (by rw [LL.out]; have := LQ.out; omega) v3 SW3.out.n
            rw [hdq.2] at HD
            replace HD := Lib.hid HD
            have HR := Lib.hid (fun w (h : RefN w R R A c qs) hb => rdeliver_ok R R c A qs i q' hq' (by have := LQ.out; omega) w h hb)
            have TQ := Lib.hid q'.at
            have SME := Lib.hid (SM.out.erase i)
            clear hv' hsi hdq hsz hq' hi
            unfold RDelPost at HR
            generalize q'.cs = x11 at *
            go_wp2_with fail
            refine HD.out.mono ?_
            rintro e v4 ⟨rfl, hn4, hk4⟩
            have SW4 := Lib.hid (SW3.out.net hk4 hn4)
            have Bs4 := Lib.hid (blk_next SW3.out.n Bs.out hk4)
            have u1 := Bs4.out.cell 1 rfl
            clear hn4 hk4 HD s0 s1
            go_wp2_with fail
            refine (HR.out v4 SW4.out.r SW4.out.r3).mono ?_
            rintro e v5 ⟨rfl, A', c', hr7, hk7⟩
            have SW5 := Lib.hid (SW4.out.ref (hk7.mono (fun b _ h => .inl h)) hr7)
            clear hr7 hk7 HR u1 SW4 Bs4
            go_wp2_with (first
              | ((with_reducible refine gate_dst (N := 14) rfl ?_); refine box_event rfl (N := 14) rfl (run_allocM _ _ rfl _) ?_; intro g14 hg14 v6 hbox hbel; have Bg14 := Lib.hid (show Blk v6 g14 36 zcs from hbox); have BLg14 := Lib.hid hbel; have Hg14 := Lib.hid hg14; clear hbox hbel hg14)
              | ((with_reducible refine gate_store (t := 36) (p := 14) rfl ?_); refine wpList_store_mid rfl 36 _ _ rfl g14 0 x11.toArray rfl rfl ?ht ?hi ?h1 ?_; (case ht => exact Bg14.out.there _ (by rw [List.size_toArray, TQ.out.len]; exact Nat.le_refl 33)); (case hi => rw [List.size_toArray, TQ.out.len]; exact infoMsg); (case h1 => exact all_oneCell_toArray TQ.out.one); have B2g14 := Lib.hid (Bg14.out.setAll x11 (by rw [TQ.out.len]; rfl)); have Kg14 := Lib.hid (Keeps.setCells (S := fun k => k = g14) x11 0 v6 (Keeps.refl _ _) (fun _ => rfl)); change wpList _ _ _ _ _ (v6.setCells g14 0 x11); generalize v6.setCells g14 0 x11 = v7 at B2g14 Kg14 ⊢; have BMg14 := Lib.hid (BLg14.out.trans (Kg14.out.below BLg14.out.size (fun k hk => by show ¬ k = g14; have := Hg14.out; omega))); clear Bg14 BLg14 Kg14 Hg14; have SW7 := Lib.hid (SW5.out.below BMg14.out); clear BMg14 SW5)
              | (go_at_call 11; refine (num_any _ _).mono ?_; rintro e w' ⟨rfl, rfl⟩))
            go_meet
            exact ⟨g, A', c', ss.eraseIdx i, qs.eraseIdx i, SW7.out, SME.out⟩
        by_cases h01 : kind = 0 ∨ kind = 1
        · have hkk : (kind == 0) = true ∨ ((kind == 0) = false ∧ (kind == 1) = true) := by
            rcases h01 with h | h
            · exact .inl (by simp [h])
            · exact .inr ⟨by simp [h], by simp [h]⟩
          clear h2 h3 h01
          have HMs := Lib.hid Bs.out.stepMsg
          have HEN3 := Lib.hid (HEN.out.below SW3.out.kb)
          have rlow := Lib.hid (fun b h => (SW3.out.r.own.lt b h).2)
          have qlow := Lib.hid (fun p hp b h => ((SW3.out.r.ents p hp).1.lt b h))
          have TX := Lib.hid q.at
          have HLD := Lib.hid (lendMessage_any q.m q.A q.c HLEN.out HCAP.out v3 HEN3.out)
          unfold MLendPost at HLD
          have HCP := Lib.hid (fun w (h : EntsR w q.A q.m.list) => copyMessage_any q.m q.A q.c (by have := HLEN.out; omega) HCAP.out w h)
          unfold MCopyPost at HCP
          have HL4 : Hid (q.m.list.length ≤ 4398046511104) := Lib.hid (by have := HLEN.out; omega)
          have HNM : Hid (∀ e ∈ q.m.list, e.name.size ≤ 140737488355328) := Lib.hid (fun e he => by have := (HOK.out.list e he).1; unfold Siz at this; omega)
          have Hxl := Lib.hid q.len
          change Hid (Calls _ _ #[.agg q.cs.toArray] _ _) at HLD
          change Hid (∀ w, EntsR w q.A q.m.list → Calls _ _ #[.agg q.cs.toArray] _ _) at HCP
          generalize hxq : q.cs = x at *
          have MS := Lib.hid (fun v (h : Blk v gs 63 (stcs kind place q)) => mid_of Hxl.out (hxq ▸ h.stepMsg))
          clear hxq
          rcases hkk with k0 | ⟨k0, k00⟩
          all_goals
            go_wp2_with (first
              | ((with_reducible refine gate_dst (N := 53) rfl ?_); refine wpList_load_mid rfl 36 _ rfl gs 2 rfl x _ ?hc Try.underlying36 rfl ?hi ?_; (case hc => exact HMs.out); (case hi => rw [Hxl.out]; exact infoMsg)))
            refine HLD.out.mono ?_
            rintro e v4 ⟨L, c4, rfl, hL1, hL2, hL3, hb⟩
            have TY := Lib.hid (MsgAt.of q.m (some ⟨L, 0, none⟩) c4)
            have HENC := Lib.hid (fun w h => encode_ref q.m (some ⟨L, 0, none⟩) c4 HOK.out (by omega) (.inr rfl) w h)
            have SW4 := Lib.hid (SW3.out.below hb); have Bs4 := Lib.hid (Bs.out.below hb); have LE4 := Lib.hid hL3; have LB := Lib.hid hL1; have LC := Lib.hid hL2; have Z4 := Lib.hid hb.size
            clear hL1 hL2 hL3 hb s0 s1
            generalize q.m.vs (.slice (some ⟨L, 0, none⟩) q.m.list.length c4) = y at *
            go_wp2_with (first
              | ((with_reducible refine gate_dst (N := 7) rfl ?_); refine box_event rfl (N := 7) rfl (run_allocM _ _ rfl _) ?_; intro g7 hg7 v5 hbox hbel; have B7a := Lib.hid (show Blk v5 g7 36 zcs from hbox); have BLg7 := Lib.hid hbel; have Hg7 := Lib.hid hg7; clear hbox hbel hg7)
              | ((with_reducible refine gate_store (t := 36) (p := 7) rfl ?_); refine wpList_store_mid rfl 36 _ _ rfl g7 0 y.toArray rfl rfl ?ht ?hi ?h1 ?_; (case ht => exact B7a.out.there _ (by rw [List.size_toArray, TY.out.len]; exact Nat.le_refl 33)); (case hi => rw [List.size_toArray, TY.out.len]; exact infoMsg); (case h1 => exact all_oneCell_toArray TY.out.one); have B2g7 := Lib.hid (B7a.out.setAll y (by rw [TY.out.len]; rfl)); have Kg7 := Lib.hid (Keeps.setCells (S := fun k => k = g7) y 0 v5 (Keeps.refl _ _) (fun _ => rfl)); change wpList _ _ _ _ _ (v5.setCells g7 0 y); generalize v5.setCells g7 0 y = v6 at B2g7 Kg7 ⊢; have BM7 := Lib.hid (BLg7.out.trans (Kg7.out.below BLg7.out.size (fun k hk => by show ¬ k = g7; have := Hg7.out; omega))); have G7 := Lib.hid (show v3.heap.size ≤ g7 by have h1 := Hg7.out; have h2 := Z4.out; omega); have SW6 := Lib.hid (SW4.out.below BM7.out); have Bs6 := Lib.hid (Bs4.out.below BM7.out); have LE6 := Lib.hid (LE4.out.below BM7.out); clear B7a BLg7 Kg7 Hg7 BM7 SW4 Bs4 LE4)
              | ((with_reducible refine gate_dst (N := 56) rfl ?_); refine wpList_load_mid rfl 36 _ rfl g7 0 rfl y _ ?hc Try.underlying36 rfl ?hi ?_; (case hc => exact B2g7.out.range); (case hi => rw [TY.out.len]; exact infoMsg)))
            by_cases hf : 1024 ≤ ss.length
            · skip
              obtain ⟨A6, c6, hc6⟩ := SW6.out.n.cell
              have HS := Lib.hid (send_full N ss.length c6 A6 y TY.out.len hf (by rw [LL.out]; have := LQ.out; omega) v6 hc6)
              have HRS := Lib.hid (fun (A' : Option Addr) (c' : Nat) w (h : RefN w R R A c qs) (hq : EntsG w ⟨q.m, A', c'⟩) => rsend_full R qs.length c A (q.m.vs (.slice A' q.m.list.length c')) rfl (by rw [← LL.out]; exact hf) w (h.b.cell 0 rfl))
              clear hc6 hf
              go_wp2_with fail
              refine HS.out.mono ?_
              rintro e v7 ⟨rfl, hb⟩
              have SW7 := Lib.hid (SW6.out.below hb)
              have Bs7 := Lib.hid (Bs6.out.below hb)
              have B7 := Lib.hid (B2g7.out.below hb)
              have LE7 := Lib.hid (LE6.out.below hb)
              clear hb
              clear HS SW6 Bs6 B2g7 LE6 HENC
              have MY := Lib.hid (fun v (h : Blk v g7 36 y) => mid_of TY.out.len h.range)
              have HEN7 := Lib.hid ((HEN.out.below SW7.out.kb).below (Below.refl _ _).drew)
              have m1 := (MS.out v7.drew (Bs7.out.drew)).1
              have m2 := (MS.out v7.drew (Bs7.out.drew)).2
              have m3 := (MS.out v7 Bs7.out).1
              have m4 := (MS.out v7 Bs7.out).2
              go_wp2_with fail
              go_region_law
                ((first
                  | (go_simp; go_at_call 11; refine (num_any _ _).mono ?_; rintro e w' ⟨rfl, rfl⟩)
                  | (go_simp; go_at_call 18; refine (HCP.out _ HEN7.out).mono ?_; rintro e u1 ⟨A2, c2, rfl, hcc2, hb⟩; have SWu := Lib.hid ((SW7.out.below (Below.refl _ _).drew).below hb); have Bsu := Lib.hid ((Bs7.out.drew).below hb); have B7u := Lib.hid ((B7.out.drew).below hb); have LEu := Lib.hid ((LE7.out.below (Below.refl _ _).drew).below hb); have Qu := Lib.hid (entsG_copy hcc2).1; have Qb := Lib.hid (entsG_copy hcc2).2; clear hcc2 hb)
                  | (go_simp; go_at_call 21; refine (HRS.out A2 c2 _ SWu.out.r Qu.out).mono ?_; rintro e u2 ⟨rfl, hb⟩; have SW2 := Lib.hid (SWu.out.below hb); have Bs2 := Lib.hid (Bsu.out.below hb); have B72 := Lib.hid (B7u.out.below hb); have LE2 := Lib.hid (LEu.out.below hb); have n1 := (MS.out u2 Bs2.out).1; have n2 := (MS.out u2 Bs2.out).2; have n3 := (MY.out u2 B72.out).1; have n4 := (MY.out u2 B72.out).2; clear hb)
                  | (go_simp; go_at_call 12; refine (kept_raw q.m L q.A c4 q.c y x TY.out TX.out HL4.out LC.out _ LE2.out.reads (HEN.out.below SW2.out.kb)).mono ?_; rintro e u3 ⟨rfl, hb⟩; have SW33 := Lib.hid (SW2.out.below hb); have LE3 := Lib.hid (LE2.out.below hb); have c29 := (B72.out.below hb).cell 29 (TY.out.ans 12 _ rfl); clear hb)))
              all_goals
                clear n1 n2 n3 n4 m1 m2 m3 m4
                go_wp2_with fail
                refine (spoil_any L c4 q.m.list HL4.out HNM.out _ LE3.out.take).mono ?_
                rintro e u4 ⟨rfl, hk⟩
                have SW4 := Lib.hid (show SW w u4 N R N R g A c ss qs by
                  obtain ⟨cs, h1, _⟩ := LE3.out
                  exact SW33.out.spoil h1 (by have h1 := LB.out; have h2 := SW3.out.kb.size; omega) (fun p hp e => by have h1 := qlow.out p hp L e; have h2 := LB.out; omega) hk)
                clear hk
                go_wp2_with fail
                go_meet
                exact ⟨g, A, c, ss, qs, SW4.out, SM.out⟩
            cases hv : (q.m.refE.2 == 0) with
            | false =>
              obtain ⟨A6, c6, hc6⟩ := SW6.out.n.cell
              have HS := Lib.hid (send_bad N ss.length c6 A6 y TY.out.len q.m.refE.1 q.m.refE.2 (fun w => EntsR w (some ⟨L, 0, none⟩) q.m.list) (fun w w1 hb h => h.below hb) HENC.out hv hf v6 hc6 LE6.out.take.reads)
              have HRS := Lib.hid (fun (A' : Option Addr) (c' : Nat) w (h : RefN w R R A c qs) (hq : EntsG w ⟨q.m, A', c'⟩) => rsend_bad R qs.length c A (q.m.vs (.slice A' q.m.list.length c')) rfl q.m.refE.1 q.m.refE.2 (fun w => EntsG w ⟨q.m, A', c'⟩) (fun w w1 hb h => h.below hb) (fun w h => refEncode_any q.m A' c' HOK.out h.cap w h.reads) hv (by rw [← LL.out]; exact hf) w (h.b.cell 0 rfl) hq)
              have hcc : (q.m.refE.2 != q.m.refE.2) = false := by simp
              clear hc6 hf hv
              generalize q.m.refE.2 = code at *
              go_wp2_with fail
              refine HS.out.mono ?_
              rintro e v7 ⟨rfl, hb⟩
              have SW7 := Lib.hid (SW6.out.below hb)
              have Bs7 := Lib.hid (Bs6.out.below hb)
              have B7 := Lib.hid (B2g7.out.below hb)
              have LE7 := Lib.hid (LE6.out.below hb)
              clear hb
              clear HS SW6 Bs6 B2g7 LE6 HENC
              have MY := Lib.hid (fun v (h : Blk v g7 36 y) => mid_of TY.out.len h.range)
              have HEN7 := Lib.hid ((HEN.out.below SW7.out.kb).below (Below.refl _ _).drew)
              have m1 := (MS.out v7.drew (Bs7.out.drew)).1
              have m2 := (MS.out v7.drew (Bs7.out.drew)).2
              have m3 := (MS.out v7 Bs7.out).1
              have m4 := (MS.out v7 Bs7.out).2
              go_wp2_with fail
              go_region_law
                ((first
                  | (go_simp; go_at_call 11; refine (num_any _ _).mono ?_; rintro e w' ⟨rfl, rfl⟩)
                  | (go_simp; go_at_call 18; refine (HCP.out _ HEN7.out).mono ?_; rintro e u1 ⟨A2, c2, rfl, hcc2, hb⟩; have SWu := Lib.hid ((SW7.out.below (Below.refl _ _).drew).below hb); have Bsu := Lib.hid ((Bs7.out.drew).below hb); have B7u := Lib.hid ((B7.out.drew).below hb); have LEu := Lib.hid ((LE7.out.below (Below.refl _ _).drew).below hb); have Qu := Lib.hid (entsG_copy hcc2).1; have Qb := Lib.hid (entsG_copy hcc2).2; clear hcc2 hb)
                  | (go_simp; go_at_call 21; refine (HRS.out A2 c2 _ SWu.out.r Qu.out).mono ?_; rintro e u2 ⟨rfl, hb⟩; have SW2 := Lib.hid (SWu.out.below hb); have Bs2 := Lib.hid (Bsu.out.below hb); have B72 := Lib.hid (B7u.out.below hb); have LE2 := Lib.hid (LEu.out.below hb); have n1 := (MS.out u2 Bs2.out).1; have n2 := (MS.out u2 Bs2.out).2; have n3 := (MY.out u2 B72.out).1; have n4 := (MY.out u2 B72.out).2; clear hb)
                  | (go_simp; go_at_call 12; refine (kept_raw q.m L q.A c4 q.c y x TY.out TX.out HL4.out LC.out _ LE2.out.reads (HEN.out.below SW2.out.kb)).mono ?_; rintro e u3 ⟨rfl, hb⟩; have SW33 := Lib.hid (SW2.out.below hb); have LE3 := Lib.hid (LE2.out.below hb); have c29 := (B72.out.below hb).cell 29 (TY.out.ans 12 _ rfl); clear hb)))
              all_goals
                clear n1 n2 n3 n4 m1 m2 m3 m4
                go_wp2_with fail
                refine (spoil_any L c4 q.m.list HL4.out HNM.out _ LE3.out.take).mono ?_
                rintro e u4 ⟨rfl, hk⟩
                have SW4 := Lib.hid (show SW w u4 N R N R g A c ss qs by
                  obtain ⟨cs, h1, _⟩ := LE3.out
                  exact SW33.out.spoil h1 (by have h1 := LB.out; have h2 := SW3.out.kb.size; omega) (fun p hp e => by have h1 := qlow.out p hp L e; have h2 := LB.out; omega) hk)
                clear hk
                go_wp2_with fail
                go_meet
                exact ⟨g, A, c, ss, qs, SW4.out, SM.out⟩
            | true =>
              have hre : q.m.refE = (q.m.refE.1, 0) := Prod.ext rfl (by simpa using hv)
              obtain ⟨hval, hlay⟩ := ref_val HOK.out hre
              rw [hre] at HENC
              have HS := Lib.hid (send_ok N N g ss y TY.out.len q.m.refE.1 (fun w => EntsR w (some ⟨L, 0, none⟩) q.m.list) (fun w w1 hb h => h.below hb) HENC.out hf v6 SW6.out.n SW6.out.n3 LE6.out.take.reads)
              have HRS := Lib.hid (fun (A' : Option Addr) (c' : Nat) w (h : RefN w R R A c qs) (hb : R ≤ w.heap.size) (hq : EntsG w ⟨q.m, A', c'⟩) (hqb : ∀ b, A' = some ⟨b, 0, none⟩ → R ≤ b) => rsend_ok R R c A qs ⟨q.m, A', c'⟩ q.m.refE.1 (fun w h => by
                have h2 := refEncode_any q.m A' c' HOK.out h.cap w h.reads
                rw [hre] at h2
                exact h2) (by rw [← LL.out]; exact hf) w h hb hq hqb)
              have SMA := Lib.hid (fun (A' : Option Addr) (c' : Nat) => SM.out.add ⟨q.m, A', c'⟩ hval (by rw [← LL.out]; omega))
              have hlay2 : q.m.layS = q.m.refE.1 := hlay
              simp only [hlay2] at SMA
              have RR := Lib.hid (show R < v3.heap.size from SW3.out.r.b.lt)
              clear hf hv hre hval hlay hlay2
              generalize q.m.refE.1 = sb at *
              go_wp2_with fail
              refine HS.out.mono ?_
              rintro e v7 ⟨rfl, k7, hn7, _, hk7⟩
              have SW7 := Lib.hid (SW6.out.net hk7 hn7)
              have Bs7 := Lib.hid (blk_next SW6.out.n Bs6.out hk7)
              have B7 := Lib.hid (blk_next SW6.out.n B2g7.out hk7)
              have LE7 := Lib.hid (show EntsB v7 L (q.m.list ++ [room, room]) by
                obtain ⟨cs, h1, h2⟩ := LE6.out
                exact ⟨cs, blk_next SW6.out.n h1 hk7, h2⟩)
              have Z7 := Lib.hid (show L < v7.heap.size from LE7.out.lt)
              clear hn7 hk7
              clear HS SW6 Bs6 B2g7 LE6 HENC
              have MY := Lib.hid (fun v (h : Blk v g7 36 y) => mid_of TY.out.len h.range)
              have HEN7 := Lib.hid ((HEN.out.below SW7.out.kb).below (Below.refl _ _).drew)
              have m1 := (MS.out v7.drew (Bs7.out.drew)).1
              have m2 := (MS.out v7.drew (Bs7.out.drew)).2
              have m3 := (MS.out v7 Bs7.out).1
              have m4 := (MS.out v7 Bs7.out).2
              go_wp2_with fail
              go_region_law
                ((first
                  | (go_simp; go_at_call 11; refine (num_any _ _).mono ?_; rintro e w' ⟨rfl, rfl⟩)
                  | (go_simp; go_at_call 18; refine (HCP.out _ HEN7.out).mono ?_; rintro e u1 ⟨A2, c2, rfl, hcc2, hb⟩; have SWu := Lib.hid ((SW7.out.below (Below.refl _ _).drew).below hb); have Bsu := Lib.hid ((Bs7.out.drew).below hb); have B7u := Lib.hid ((B7.out.drew).below hb); have LEu := Lib.hid ((LE7.out.below (Below.refl _ _).drew).below hb); have Qu := Lib.hid (entsG_copy hcc2).1; have Qb := Lib.hid (entsG_copy hcc2).2; clear hcc2 hb)
                  | (go_simp; go_at_call 21; refine (HRS.out A2 c2 _ SWu.out.r SWu.out.r3 Qu.out (fun b h => Nat.le_trans (Nat.le_of_lt RR.out) (Nat.le_trans (show v3.heap.size ≤ v7.heap.size by have h1 := LB.out; have h2 := Z7.out; omega) (Qb.out b h)))).mono ?_; rintro e u2 ⟨rfl, k2, c22, hr2, _, hk2⟩; have SW2 := Lib.hid (SWu.out.ref hk2 hr2); have Bs2 := Lib.hid (SWu.out.ref_blk hk2 Bsu.out (by decide) (fun b h => Bsu.out.rowApart SWu.out.r.own (by decide) b h)); have B72 := Lib.hid (SWu.out.ref_blk hk2 B7u.out (by decide) (fun b h e => by have h1 := rlow.out b h; have h2 := G7.out; omega)); have LE2 := Lib.hid (show EntsB u2 L (q.m.list ++ [room, room]) by (obtain ⟨cs, h1, h2⟩ := LEu.out; exact ⟨cs, SWu.out.ref_blk hk2 h1 (by decide) (fun b h => h1.rowApart SWu.out.r.own (by decide) b h), h2⟩)); have n1 := (MS.out u2 Bs2.out).1; have n2 := (MS.out u2 Bs2.out).2; have n3 := (MY.out u2 B72.out).1; have n4 := (MY.out u2 B72.out).2; clear hr2 hk2)
                  | (go_simp; go_at_call 12; refine (kept_raw q.m L q.A c4 q.c y x TY.out TX.out HL4.out LC.out _ LE2.out.reads (HEN.out.below SW2.out.kb)).mono ?_; rintro e u3 ⟨rfl, hb⟩; have SW33 := Lib.hid (SW2.out.below hb); have LE3 := Lib.hid (LE2.out.below hb); have c29 := (B72.out.below hb).cell 29 (TY.out.ans 12 _ rfl); clear hb)))
              all_goals
                clear n1 n2 n3 n4 m1 m2 m3 m4
                go_wp2_with fail
                refine (spoil_any L c4 q.m.list HL4.out HNM.out _ LE3.out.take).mono ?_
                rintro e u4 ⟨rfl, hk⟩
                have SW4 := Lib.hid (show SW w u4 N R N R (some k7) (some ⟨k2, 0, none⟩) c22 (ss ++ [sb]) (qs ++ [⟨q.m, A2, c2⟩]) by
                  obtain ⟨cs, h1, _⟩ := LE3.out
                  refine SW33.out.spoil h1 (by have h1 := LB.out; have h2 := SW3.out.kb.size; omega) (fun p hp e => ?_) hk
                  rcases List.mem_append.1 hp with hp | hp
                  · have h1 := qlow.out p hp L e; have h2 := LB.out; omega
                  · rw [List.mem_singleton] at hp
                    subst hp
                    have h1 := Qb.out L e; have h2 := Z7.out; have h3 : v7.drew.heap.size = v7.heap.size := rfl; omega)
                clear hk
                go_wp2_with fail
                go_meet
                exact ⟨some k7, some ⟨k2, 0, none⟩, c22, ss ++ [sb], qs ++ [⟨q.m, A2, c2⟩], SW4.out, SMA.out A2 c2⟩
        · have b0 : (kind == 0) = false := by simp; omega
          have b1 : (kind == 1) = false := by simp; omega
          have b2 : (kind == 2) = false := by simp; omega
          have b3 : (kind == 3) = false := by simp; omega
          clear h2 h3 h01
          rcases (show place < 0 ∨ (ss.length : Int) ≤ place ∨ ∃ i : Nat, place = (i : Int) ∧ i < ss.length by
            by_cases h1 : place < 0
            · exact .inl h1
            · by_cases h2 : (ss.length : Int) ≤ place
              · exact .inr (.inl h2)
              · exact .inr (.inr ⟨place.toNat, by omega, by omega⟩)) with hp | hp | ⟨i, rfl, hi⟩
          · have HD := Lib.hid (copy_low N ss.length cN' AN place hp v3 HCN.out)
            have HR := Lib.hid (fun w h => rcopy_low R qs.length c A place hp w h)
            clear hp
            go_wp2_with fail
            refine HD.out.mono ?_
            rintro e w' ⟨rfl, rfl⟩
            clear HD s0
            go_wp2_with fail
            go_region_law
              ((first
                | (go_simp; go_at_call 11; refine (num_any _ _).mono ?_; rintro e w' ⟨rfl, rfl⟩)
                | (go_simp; go_at_call 26; refine (HR.out _ (by first | exact SW3.out.r.b.cell 0 rfl | exact SW3.out.r)).mono ?_; rintro e w' ⟨rfl, rfl⟩)))
            all_goals
              go_wp2_with fail
              go_meet
              exact ⟨g, A, c, ss, qs, SW3.out.below ((Below.refl _ _).drew), SM.out⟩
          · have HD := Lib.hid (copy_high N ss.length cN' AN place hp v3 HCN.out)
            have HR := Lib.hid (fun w h => rcopy_high R qs.length c A place (by rw [← LL.out]; exact hp) w h)
            clear hp
            go_wp2_with fail
            refine HD.out.mono ?_
            rintro e w' ⟨rfl, rfl⟩
            clear HD s0
            go_wp2_with fail
            go_region_law
              ((first
                | (go_simp; go_at_call 11; refine (num_any _ _).mono ?_; rintro e w' ⟨rfl, rfl⟩)
                | (go_simp; go_at_call 26; refine (HR.out _ (by first | exact SW3.out.r.b.cell 0 rfl | exact SW3.out.r)).mono ?_; rintro e w' ⟨rfl, rfl⟩)))
            all_goals
              go_wp2_with fail
              go_meet
              exact ⟨g, A, c, ss, qs, SW3.out.below ((Below.refl _ _).drew), SM.out⟩
          · obtain ⟨q', hq'⟩ : ∃ q', qs[i]? = some q' := ⟨qs[i]'(by rw [← LL.out]; exact hi), List.getElem?_eq_getElem (by rw [← LL.out]; exact hi)⟩
            have hv' := SM.out.val q' (List.mem_of_getElem? hq')
            have hsi : ss[i]? = some q'.m.layS := by rw [SM.out.ss, List.getElem?_map, hq']; rfl
            have hre : q'.m.refE = (q'.m.layS, 0) := val_refE hv' (layS_data q'.m).symm
            by_cases hfull : 1024 ≤ ss.length
            · have HD := Lib.hid (copy_full N ss.length cN' AN i (by omega) (by omega) hfull v3 HCN.out)
              have HR := Lib.hid (fun w1 (h : SW w w1 N R N R g A c ss qs) => rcopy_full R R c A qs i q' hq' (by rw [← LL.out]; exact hfull) (by have := LQ.out; omega) w1 h.r h.r3)
              clear hv' hsi hre hq' hi hfull
              go_wp2_with fail
              refine HD.out.mono ?_
              rintro e w' ⟨rfl, rfl⟩
              clear HD s0
              go_wp2_with fail
              go_region_law
                ((first
                  | (go_simp; go_at_call 11; refine (num_any _ _).mono ?_; rintro e w' ⟨rfl, rfl⟩)
                  | (go_simp; go_at_call 26; refine (HR.out _ (SW3.out.below ((Below.refl _ _).drew))).mono ?_; rintro e w' ⟨rfl, hb⟩; have BR := Lib.hid (((Below.refl v3.heap.size v3).drew).trans hb); clear hb)))
              all_goals
                go_wp2_with fail
                go_meet
                exact ⟨g, A, c, ss, qs, SW3.out.below BR.out, SM.out⟩
            · have HD := Lib.hid (copy_ok N N g ss i q'.m.layS hsi hfull v3 SW3.out.n SW3.out.n3)
              have HE : ∀ w, EntsG w q' → Calls Try.prog 10 #[.agg q'.cs.toArray] w fun e w' => e = .returned (.tuple #[.string q'.m.layS, .int .i64 0]) ∧ Below w.heap.size w w' := fun w h => by
                have h2 := refEncode_any q'.m q'.A q'.c hv'.ok (h.cap) w h.reads
                rw [hre] at h2
                exact h2
              have HR := Lib.hid (fun w (h : RefN w R R A c qs) hb => rcopy_ok R R c A qs i q' hq' q'.m.layS HE (by rw [← LL.out]; exact hfull) (by have := LQ.out; omega) w h hb)
              have SMA := Lib.hid (SM.out.add q' hv' (by rw [← LL.out]; omega))
              clear hv' hsi hre hq' hi hfull HE
              unfold RCopyPost at HR
              generalize q'.m.layS = sq at *
              go_wp2_with fail
              refine HD.out.mono ?_
              rintro e v4 ⟨rfl, k4, hn4, _, hk4⟩
              have SW4 := Lib.hid (SW3.out.net hk4 hn4)
              have Bs4 := Lib.hid (blk_next SW3.out.n Bs.out hk4)
              have u1 := Bs4.out.cell 1 rfl
              have SW4d := Lib.hid (SW4.out.below ((Below.refl _ _).drew))
              clear hn4 hk4 HD s0 s1
              go_wp2_with fail
              go_region_law
                ((first
                  | (go_simp; go_at_call 11; refine (num_any _ _).mono ?_; rintro e w' ⟨rfl, rfl⟩)
                  | (go_simp; go_at_call 26; refine (HR.out _ SW4d.out.r SW4d.out.r3).mono ?_; rintro e w' ⟨rfl, k5, c5, hr5, _, hk5⟩; have SW5 := Lib.hid (SW4d.out.ref hk5 hr5); clear hr5 hk5)))
              all_goals
                go_wp2_with fail
                go_meet
                exact ⟨some k4, some ⟨k5, 0, none⟩, c5, ss ++ [sq], qs ++ [q'], SW5.out, SMA.out⟩
      case rest =>
        clear SM Bs SW3 s0 s1 S HEN HOK HPL HCAP HLEN HNIL Hx hrg1 XL XO
        obtain ⟨g1, A1, c1, ss1, qs1, hSW, hSM⟩ := hcut
        have SW1 := Lib.hid hSW; have SM1 := Lib.hid hSM
        clear hSW hSM
        have LS := Lib.hid (fun w (h : NetAt w N N g1 ss1) => list_any N N g1 ss1 (by rw [SM1.out.length]; have := SM1.out.len; omega) SM1.out.size w h)
        unfold NListPost at LS
        have LL := Lib.hid SM1.out.length
        go_wp2_with fail
        refine (LS.out _ SW1.out.n).mono ?_
        rintro e w1 ⟨A2, c2, ps2, rfl, hm2, hq2, hb2⟩
        have M2 := Lib.hid hm2; have Q2 := Lib.hid (hq2.trans SM1.out.dec); have B2 := Lib.hid hb2
        clear hm2 hq2 hb2
        go_wp2_with fail
        refine (LS.out _ (SW1.out.below B2.out).n).mono ?_
        rintro e w2 ⟨A3, c3, ps3, rfl, hm3, hq3, hb3⟩
        have M3 := Lib.hid hm3; have Q3 := Lib.hid (hq3.trans SM1.out.dec); have B3 := Lib.hid hb3
        clear hm3 hq3 hb3 LS
        have B23 := Lib.hid (B2.out.trans (B3.out.mono B2.out.size))
        have L2 : Hid (ps2.length = ss1.length) := Lib.hid (by have := congrArg List.length Q2.out; simp only [List.length_map] at this; rw [this, LL.out])
        have L3 : Hid (ps3.length = ss1.length) := Lib.hid (by have := congrArg List.length Q3.out; simp only [List.length_map] at this; rw [this, LL.out])
        have SZ := Lib.hid (fun (ps : List Qm) (h : ps.map Qm.m = qs1.map Qm.m) (p : Qm) (hp : p ∈ ps) => SM1.out.small ps h p hp)
        have cR := (B23.out.cell (p := ⟨R, 0, none⟩) SW1.out.r.b.lt).trans (SW1.out.r.b.cell 0 rfl)
        have X2 := Lib.hid (sameMs_any A2 A1 c2 c1 ps2 qs1 Q2.out (fun p hp => (SZ.out ps2 Q2.out p hp).1) (by rw [L2.out, LL.out]; have := SM1.out.len; omega) w2 (row_reads L2.out (L2.out ▸ (M2.out.below B3.out).own) (fun p hp => ((M2.out.below B3.out).ents p hp).1)) (row_reads rfl (SW1.out.r.below B23.out).own (fun p hp => ((SW1.out.r.below B23.out).ents p hp).1)))
        rw [L2.out] at X2
        go_wp2_with fail
        refine X2.out.mono ?_
        rintro e w3 ⟨rfl, hb⟩
        have B4 := Lib.hid hb
        have B24 := Lib.hid (B23.out.trans (B4.out.mono B23.out.size))
        clear hb X2 cR
        have MA := Lib.hid ((M2.out.below B3.out).below B4.out)
        have XS := Lib.hid (spoilMs_any wc.heap.size c2 A2 ps2 (fun p hp => SZ.out ps2 Q2.out p hp) (by rw [L2.out, LL.out]; have := SM1.out.len; omega) w3 (L2.out.symm ▸ MA.out))
        rw [L2.out] at XS
        go_wp2_with fail
        refine XS.out.mono ?_
        rintro e w4 ⟨rfl, hk4⟩
        have low4 : ∀ k, SpS (.slice A2 ss1.length c2) ps2 k → wc.heap.size ≤ k ∧ k < w1.heap.size := fun k h => by
          rcases h with h | ⟨p, hp, h⟩
          · exact M2.out.own.lt k h
          · exact ⟨(M2.out.ents p hp).2 k h, (M2.out.ents p hp).1.lt k h⟩
        have B25 := Lib.hid (B24.out.trans (hk4.below B24.out.size (fun k h1 h2 => by have := (low4 k h2).1; omega)))
        have M4 := Lib.hid ((M3.out.below B4.out).keeps hk4 (fun b hb h => by have h1 := (low4 b h).2; have h2 := (M3.out.own.lt b hb).1; omega) (fun p hp b hb h => by have h1 := (low4 b h).2; have h2 := (M3.out.ents p hp).2 b hb; omega))
        clear hk4 low4 XS MA
        have cR := (B25.out.cell (p := ⟨R, 0, none⟩) SW1.out.r.b.lt).trans (SW1.out.r.b.cell 0 rfl)
        have X3 := Lib.hid (sameMs_any A3 A1 c3 c1 ps3 qs1 Q3.out (fun p hp => (SZ.out ps3 Q3.out p hp).1) (by rw [L3.out, LL.out]; have := SM1.out.len; omega) w4 (row_reads L3.out (L3.out ▸ M4.out.own) (fun p hp => (M4.out.ents p hp).1)) (row_reads rfl (SW1.out.r.below B25.out).own (fun p hp => ((SW1.out.r.below B25.out).ents p hp).1)))
        rw [L3.out] at X3
        go_wp2_with fail
        refine X3.out.mono ?_
        rintro e w5 ⟨rfl, hb⟩
        have B26 := Lib.hid (B25.out.trans (hb.mono B25.out.size))
        clear hb X3 cR
        go_wp2_with fail
        go_roundw
        case rel => exact ⟨k + 1, by omega, by omega, by go_num, g1, A1, c1, ss1, qs1, SW1.out.below B26.out, SM1.out⟩
        case measure => simp [RowKit.intOf]; omega
    · have kd : (decide ((k : Int) < (n : Int)) = true ∧ decide ((k : Int) < 300) = false ∧ k < n) ∨ (decide ((k : Int) < (n : Int)) = false ∧ decide (k < n) = false ∧ ¬ k < n) := by
        by_cases h1 : k < n
        · exact .inl ⟨by simpa using h1, by simp; omega, h1⟩
        · exact .inr ⟨by simpa using h1, by simpa using h1, h1⟩
      obtain ⟨g, A, c, ss, qs, hSW, _⟩ := S.out
      have SW0 := Lib.hid hSW
      clear hSW hlt
      rcases kd with ⟨kd, kd2, kd3⟩ | ⟨kd, kd2, kd3⟩
      all_goals
        go_wp2_with (go_at_call 30; refine (awake26_any _).mono ?_; rintro e v9 ⟨rfl, hb⟩; have KB9 := Lib.hid (SW0.out.kb.trans (hb.mono SW0.out.kb.size)); clear hb)
        go_ret
        exact ⟨rfl, KB9.out⟩

end Go.Proofs.Ytibcadfpengacaa

-- OpenS
set_option linter.unusedVariables false
set_option linter.unusedSimpArgs false
namespace Go.Proofs.Ytibcadfpengacaa
open Go.RowKit Go.Lib Go.ChangeShapes Go.WideShapes

theorem cSt : Try.prog.cellsOf 63 = 35 := by kernel_rfl
theorem bSt : Try.prog.bytesOf 63 = 328 := by kernel_rfl

section
variable {H : Type} {enc : TypeId × Value → H} {w : World} {base : Nat} {sp : Nat → Bool} {hd : Bool} {fuel : Nat}

theorem open_step {l : List Value} {x : DataW H × List MemPlace} (h : DataW.trod enc Try.prog w base sp hd fuel 63 l = some x) (hr : Reach Try.prog 63 x.1) (hlen : l.length = 35) :
    ∃ (kind place : Int) (q : Qm), l = stcs kind place q ∧ I64 kind ∧ I64 place ∧ q.m.Ok ∧ q.m.list.length ≤ q.c ∧ q.m.list.length + 2 < 4398046511104 ∧ EntsR w q.A q.m.list ∧ (q.m.list = [] ∨ q.A.isSome = true) := by
  obtain ⟨a0, a1, r, rfl⟩ : ∃ a0 a1 r, l = a0 :: a1 :: r := by
    rcases l with _ | ⟨a0, _ | ⟨a1, r⟩⟩
    · simp at hlen
    · simp at hlen
    · exact ⟨a0, a1, r, rfl⟩
  obtain ⟨xs, n, rfl, rfl, _, hl, hf⟩ := DataW.trod_struct Try.underlying63 h
  obtain ⟨x0, x1, x2, rfl⟩ := parts3 hl
  have h0 := fieldAt hf 0 3 0 rfl
  rw [c3] at h0
  have h1 := fieldAt hf 1 3 1 rfl
  rw [c3] at h1
  have h2 := fieldAt hf 2 36 2 rfl
  rw [c36] at h2
  have hr33 : r.length = 33 := by simpa using hlen
  have e2 : ((a0 :: a1 :: r).drop 2).take 33 = r := by
    show r.take 33 = r
    rw [List.take_of_length_le (by omega)]
  rw [e2] at h2
  obtain ⟨v0, e0, y0, g0⟩ := DataW.trod_int Try.underlying3 (show _ = some x0 from h0)
  have f0 := i64_of g0
  have e0' := List.head_eq_of_cons_eq e0
  obtain ⟨v1, e1, y1, g1⟩ := DataW.trod_int Try.underlying3 (show _ = some x1 from h1)
  have f1 := i64_of g1
  have e1' := List.head_eq_of_cons_eq e1
  obtain ⟨m, A, c, p1, p2, p3, p4, p5, p6⟩ := open_msg (show DataW.trod enc Try.prog w base sp hd n 36 r = some x2 from h2) (reach_part Try.underlying63 hr 2 36 _ rfl rfl)
  subst e0' e1' p1
  exact ⟨v0, v1, ⟨m, A, c⟩, rfl, f0, f1, p2, p3, p4, p5, p6⟩

theorem reach_steps {elems spare : List (DataW H)} (h : Reach Try.prog 55 (.slice elems spare)) : (elems.length + spare.length) * 328 ≤ reachBytes ∧ ∀ d ∈ elems, Reach Try.prog 63 d := by
  refine ⟨h _ ?_, fun d hd n hn => h n ?_⟩
  · simp only [DataW.weights, Try.underlying55, bSt]
    exact List.mem_cons_self
  · simp only [DataW.weights, Try.underlying55]
    refine List.mem_cons_of_mem _ (List.mem_append_left _ ?_)
    clear h
    induction elems with
    | nil => cases hd
    | cons a r ih =>
      rw [DataW.weightsAll]
      rcases List.mem_cons.1 hd with e | e
      · subst e
        exact List.mem_append_left _ hn
      · exact List.mem_append_right _ (ih e)

set_option maxRecDepth 20000 in
theorem open_steps {l : List Value} {x : DataW H × List MemPlace} (h : DataW.trod enc Try.prog w base sp hd fuel 55 l = some x) (hr : Reach Try.prog 55 x.1) :
    ∃ (n : Nat) (A : Option Addr) (c : Nat), l = [.slice A n c] ∧ n ≤ 281474976710656 ∧ ∀ k, k < n → ∃ kind place q, StR w A k kind place q := by
  rcases Go.Deep.open_slice Try.underlying55 h with ⟨rfl, rfl⟩ | ⟨a, len, cap, m, n, D, Pl, rfl, hb, hlc, hm, hmm, rfl, hx⟩
  · exact ⟨0, none, 0, rfl, Nat.zero_le _, fun k hk => absurd hk (Nat.not_lt_zero _)⟩
  · have hml : len ≤ m := by rw [hmm]; split <;> omega
    obtain ⟨hr1, hr2⟩ := reach_steps hr
    have hrl : reachBytes = 140737488351232 := rfl
    rw [List.length_map, List.length_range] at hr1
    refine ⟨len, some a, cap, rfl, by omega, fun i hi => ?_⟩
    obtain ⟨cs', q1, q2⟩ := hx i (by omega)
    obtain ⟨_, ql, qc⟩ := World.cells?_some q1
    rw [cSt] at ql qc
    obtain ⟨kind, place, q, rfl, z1, z2, z3, z4, z5, z6, z7⟩ := open_step q2 (hr2 _ (List.mem_map.2 ⟨i, List.mem_range.2 hi, rfl⟩)) ql
    obtain ⟨b, o, spot⟩ := a
    have hspot : spot = none := by
      obtain ⟨cs0, p1, p2⟩ := hx 0 (by omega)
      obtain ⟨_, pl, pc⟩ := World.cells?_some p1
      rw [cSt] at pl pc
      obtain ⟨v, hv⟩ : ∃ v, cs0[0]? = some v := ⟨cs0[0]'(by omega), List.getElem?_eq_getElem (by omega)⟩
      have q0 := pc 0 (by omega)
      have := World.cell?_spot (q0.trans hv)
      simpa [Addr.add] using this
    subst hspot
    refine ⟨kind, place, q, b, o, rfl, fun j v hv => ?_, z1, z2, z3, z4, z5, z6, z7⟩
    have hj : j < 35 := by
      have := (List.getElem?_eq_some_iff.1 hv).1
      rwa [stcs_len] at this
    have := (qc j hj).trans hv
    rw [addr_plus] at this
    rw [addr_plus] at this
    exact this
end

end Go.Proofs.Ytibcadfpengacaa

-- NetStepsRow
set_option linter.unusedVariables false
namespace Go.Proofs.Ytibcadfpengacaa.netSteps
open Go.ChangeShapes Go.WideShapes Go.ChangeAt Go.RowKit
open Go.ChangeMaps (open_string shut_string)

theorem own : ownKnob Try.prog.godebug = none := by kernel_rfl
theorem laid : laidOutB Try.prog = true := by kernel_rfl
theorem readable : Try.prog.readableRec 55 = true := by kernel_rfl
theorem rowed : 55 < Try.prog.types.size := of_decide_eq_true (by kernel_rfl)
set_option maxRecDepth 100000 in
theorem lifted (os : Os) (started : os.Started) (H : Type) (enc : TypeId × Value → H) :
    ReturnsInHanded {} Try.checked os 6 .any (Rows.netStepsSpec.pre6 enc Try.prog Try.f6 Rows.netStepsRow.domain false) (Rows.netStepsSpec.post enc Try.prog Try.f6 false true false false) := by
  refine returnsInHanded_of_change_sized (C := Try.checked) own started (by kernel_rfl) Try.func6
    (ChangeSpec.witness6 (enc := enc) (C := Try.checked) false ⟨#[], #[.slice none 0 0], []⟩ 8 (by kernel_rfl) (by kernel_rfl) (by kernel_rfl) (by kernel_rfl)) ?_
  intro W base args ds gs before hval0 hW hcnd hsz0 _
  have hval : ∀ (j : Nat) t v, Try.f6.params[j]? = some t → args[j]? = some v → Value.okWide Try.prog W .any base t v := hval0
  have hsz : (DataW.weightsEach Try.prog (Try.f6.params.toList ++ Rows.netStepsSpec.plain.varTypes Try.prog) (ds ++ gs)).all (· ≤ reachBytes) = true := hsz0
  have hW' := hW
  obtain ⟨p, q, hA0, hV, rfl, hfz, hnd⟩ := hW
  have hA : DataW.TrodAll enc Try.prog W 0 (fun _ => true) true Try.f6.params.toList args.toList ds p := hA0
  rw [Try.params6] at hA hval hsz
  obtain ⟨v0, vs0, d0, ds0, p0, q0, hargs, rfl, rfl, h0, r0⟩ := trodAll_cons hA
  obtain ⟨rfl, rfl, rfl⟩ := trodAll_nil r0
  obtain rfl : args = #[v0] := by cases args; simp_all
  obtain ⟨rfl, rfl⟩ := trodVars_none hV
  obtain ⟨fuel, ht⟩ := h0
  have hreach : Reach Try.prog 55 d0 := fun n hn => by
    have := List.all_eq_true.1 hsz n (DataW.weights_mem_each (j := 0) (t := 55) (d := d0) rfl rfl n hn)
    simpa using this
  obtain ⟨a0, len0, cap0, rfl⟩ := okWide_slice Try.underlying55 (hval 0 55 v0 rfl rfl)
  obtain ⟨n, A, c, hcs, hn, hst⟩ := open_steps ht hreach
  have hv : Value.slice a0 len0 cap0 = .slice A n c := by simpa [Value.cells] using hcs
  clear hA0 hval0 hval hsz0 hsz hargs hreach
  rw [hv]
  refine (steps_walk A n c hn W (Lib.hid hst)).mono fun e W' ⟨he, bel⟩ => ?_
  subst he
  rw [← hv]
  exact ⟨_, rfl, _, _, _, [], _, [], hW', trodAll_mk1 (shut_bool Try.underlying4 _), (trodAll_cons_mk (p := p0) ⟨fuel, DataW.trod_stays (kids_book laid readable) (book_sized readable) (fun h => by cases h) ⟨rowed, book_self _⟩ ht (fun x hx => bel.same (DataW.trod_lt _ _ _ _ ht x hx)) (fun x hx => decide_eq_true (DataW.trod_lt _ _ _ _ ht x hx))⟩ trodAll_mk0), rfl, bel.frame _, fun h => by cases h⟩
theorem over : Rows.netStepsRow.holds Try.pinned (OpenSpec.ofChange Rows.netStepsSpec) :=
  OpenClaim.holds_of_wide 6 Try.f6 rfl rfl rfl rfl rfl rfl rfl ⟨rfl, rfl, rfl, rfl, rfl⟩ rfl rfl rfl rfl rfl (by kernel_rfl) Try.func6 (by kernel_rfl)
    (of_decide_eq_true (by kernel_rfl)) (by unfold Func.isWrapper; first | (rw [if_pos (by decide +kernel)]; kernel_rfl) | (rw [if_neg (by decide +kernel)]; exact ⟨rfl, rfl⟩))
    (fun os started H enc _ => lifted os started H enc)
end Go.Proofs.Ytibcadfpengacaa.netSteps
namespace Go.Proofs.Ytibcadfpengacaa
theorem netSteps_holds : Rows.NetStepsSaid := netSteps.over
#print axioms netSteps_holds
end Go.Proofs.Ytibcadfpengacaa
