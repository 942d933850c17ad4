/- WireDecodes: for every text s the law returns true, and s reads as before: the message that the program reads of the bytes s is the document's, and two answers share nothing. No condition. -/
import Derived.Test.YtibcadfpengacaaMd5
import Derived.Deep.AppendLies
import Derived.Test.YtibcadfpengacaaRows
import Derived.WalkKit
import Derived.ProofKit
import Derived.OpenShut
import Derived.ShutString
import Derived.ChangeOld
import Derived.Below
import Derived.SizedLaws
-- RefV
set_option linter.unusedVariables false
set_option linter.unusedSimpArgs false
namespace Go.Proofs.Ytibcadfpengacaa
open Go.RowKit Go.Lib Go.Proofs.YtibcadfpengacaaW.PrintWords Go.Proofs.YtibcadfpengacaaW.PrintMore Go.Proofs.YtibcadfpengacaaW.PrintLast

theorem ownsRow_same {w w' : World} {base : Nat} {e : TypeId} {size : Nat} {v : Value} {n : Nat} {xs : List Value} (h : w.ownsRow base e size v n xs) (hk : ∀ g, v.ownBlock = some g → w'.heap[g]? = w.heap[g]?) : w'.ownsRow base e size v n xs := by
  refine ⟨h.1, ?_⟩
  rcases h.2 with h2 | ⟨g, cap, cur, rfl, hb, hg, rest⟩
  · exact .inl h2
  · exact .inr ⟨g, cap, cur, rfl, hb, (hk g rfl).trans hg, rest⟩
theorem ownsRow_ents {w : World} {base : Nat} {A : Option Addr} {n cap : Nat} {es : List Ent} (h : w.ownsRow base 99 3 (.slice A n cap) n (es.flatMap Ent.vs)) : EntsR w A es ∧ (n ≤ cap) := by
  rcases h.2 with ⟨h1, h2⟩ | ⟨g, cap', cur, h1, hb, hg, hc, hm, hs, ht⟩
  · cases h1
    have hn : es = [] := by
      have := h.1
      rw [entVs_length] at this
      exact List.eq_nil_of_length_eq_zero (by omega)
    subst hn
    exact ⟨fun i e he => by simp at he, Nat.le_refl _⟩
  · cases h1
    refine ⟨fun i e he => ⟨g, 0, rfl, ?_⟩, hc⟩
    have hi : i < es.length := (List.getElem?_eq_some_iff.1 he).1
    have hln := h.1
    rw [entVs_length] at hln
    have key : ∀ j, j < 3 → (es.flatMap Ent.vs)[i * 3 + j]? = e.vs[j]? := fun j hj => by
      have hsp : es = es.take i ++ e :: es.drop (i + 1) := by
        have := List.getElem?_eq_some_iff.1 he
        obtain ⟨_, rfl⟩ := this
        simp
      conv => lhs; rw [hsp]
      rw [List.flatMap_append, List.getElem?_append_right (by rw [entVs_length, List.length_take]; omega), entVs_length, List.length_take, Nat.min_eq_left (by omega), Nat.add_sub_cancel_left, List.flatMap_cons, List.getElem?_append_left (by show j < 3; exact hj)]
    have c := fun j (hj : j < 3) => h.cellAt (i * 3 + j) (by omega)
    rw [Nat.zero_add]
    exact ⟨(c 0 (by omega)).trans (key 0 (by omega)), (c 1 (by omega)).trans (key 1 (by omega)), (c 2 (by omega)).trans (key 2 (by omega))⟩

/-- .. and the answer that is read, at ga; its list sl holds es. -/
structure RefA (w0 w : World) (R g2 gm ga : Nat) (ρ : Rr) (cs an : List Value) (sl : Value) (es : List Ent) : Prop extends RefI w0 w R g2 gm ρ cs where
  a : Blk w ga 32 an
  ha : w0.heap.size ≤ ga
  a1 : ga ≠ R
  a2 : ga ≠ g2
  a3 : ga ≠ gm
  own : w.ownsRow w0.heap.size 99 3 sl es.length (es.flatMap Ent.vs)
  nb : ∀ b, sl.ownBlock = some b → b ≠ R ∧ b ≠ g2 ∧ b ≠ gm ∧ b ≠ ga
section
variable {w0 w w' : World} {R g2 gm ga : Nat} {ρ ρ' : Rr} {cs cs' an an' : List Value} {sl sl' : Value} {es : List Ent}
theorem RefA.next (h : RefA w0 w R g2 gm ga ρ cs an sl es) (q : RrPost R ρ' w w') : RefA w0 w' R g2 gm ga ρ' cs an sl es :=
  ⟨h.toRefI.next q, h.a.kept q.2 h.a1, h.ha, h.a1, h.a2, h.a3, ownsRow_same h.own (fun g hg => q.2.block g (h.own.lt g hg).2 (h.nb g hg).1), h.nb⟩
theorem RefA.below (h : RefA w0 w R g2 gm ga ρ cs an sl es) (hb : Below w.heap.size w w') : RefA w0 w' R g2 gm ga ρ cs an sl es :=
  ⟨h.toRefI.below hb, h.a.below hb, h.ha, h.a1, h.a2, h.a3, ownsRow_same h.own (fun g hg => hb.block g (h.own.lt g hg).2), h.nb⟩
theorem RefA.rr (h : RefA w0 w R g2 gm ga ρ cs an sl es) : RrS w R ρ := h.r
theorem RefA.own2 (h : RefA w0 w R g2 gm ga ρ cs an sl es) {n : Nat} (hn : es.length = n) (o : Obj) : (w.alloc o).ownsRow w0.heap.size 99 3 sl n (es.flatMap Ent.vs) := by subst hn; exact h.own.alloc o
theorem RefA.szx (h : RefA w0 w R g2 gm ga ρ cs an sl es) (o : Obj) : w0.heap.size ≤ (w.alloc o).heap.size := by have := h.bl.size; simp; omega
theorem RefA.own3 (h : RefA w0 w R g2 gm ga ρ cs an sl es) {n : Nat} (hn : es.length = n) : w.ownsRow w0.heap.size 99 3 sl n (es.flatMap Ent.vs) := by subst hn; exact h.own
theorem RefA.drew (h : RefA w0 w R g2 gm ga ρ cs an sl es) : RefA w0 w.drew R g2 gm ga ρ cs an sl es := h.below ((Below.refl _ _).drew)
theorem RefA.alloc (h : RefA w0 w R g2 gm ga ρ cs an sl es) (o : Obj) : RefA w0 (w.alloc o) R g2 gm ga ρ cs an sl es := h.below ((Below.refl _ _).alloc (Nat.le_refl _) o)
/-- A store into the answer. -/
theorem RefA.put (h : RefA w0 w R g2 gm ga ρ cs an sl es) (k : Keeps (fun k => k = ga) w w') (hc : Blk w' ga 32 an') : RefA w0 w' R g2 gm ga ρ cs an' sl es :=
  ⟨⟨⟨h.r.kept k (fun e => h.a1 e.symm), h.z.kept k (fun e => h.a2 e.symm), h.bl.trans (k.below (B := w0.heap.size) h.bl.size (fun k hk => by show ¬ k = ga; have := h.ha; omega)), h.hR, h.h2, h.n2⟩, h.m.kept k (fun e => h.a3 e.symm), h.hm, h.n1, h.n3⟩,
    hc, h.ha, h.a1, h.a2, h.a3, ownsRow_same h.own (fun g hg => k.block g (h.own.lt g hg).2 (h.nb g hg).2.2.2), h.nb⟩
theorem RefA.set (h : RefA w0 w R g2 gm ga ρ cs an sl es) (j : Nat) (v : Value) : RefA w0 (w.setCell ⟨ga, j, none⟩ v) R g2 gm ga ρ cs (an.set j v) sl es :=
  h.put ((Keeps.refl (fun k => k = ga) w).setCell (a := ⟨ga, j, none⟩) (fun _ => rfl) v) (h.a.set j v)
theorem RefA.sets (vs : List Value) : ∀ (o : Nat) (w : World) (an : List Value), RefA w0 w R g2 gm ga ρ cs an sl es → RefA w0 (w.setCells ga o vs) R g2 gm ga ρ cs (setL an o vs) sl es := by
  induction vs with
  | nil => intro o w an h; exact h
  | cons v vs ih => intro o w an h; exact ih (o + 1) _ _ (h.set o v)
/-- A store into the message. -/
theorem RefA.msg (h : RefA w0 w R g2 gm ga ρ cs an sl es) (hI : RefI w0 w' R g2 gm ρ cs') (k : Keeps (fun k => k = gm) w w') : RefA w0 w' R g2 gm ga ρ cs' an sl es :=
  ⟨hI, h.a.kept k h.a3, h.ha, h.a1, h.a2, h.a3, ownsRow_same h.own (fun g hg => k.block g (h.own.lt g hg).2 (h.nb g hg).2.2.1), h.nb⟩
theorem RefA.msgs (h : RefA w0 w R g2 gm ga ρ cs an sl es) (vs : List Value) (o : Nat) : RefA w0 (w.setCells gm o vs) R g2 gm ga ρ (setL cs o vs) an sl es :=
  h.msg (RefI.sets vs o w cs h.toRefI) (Keeps.setCells (S := fun k => k = gm) vs o w (Keeps.refl _ _) (fun _ => rfl))
/-- An append. -/
theorem RefA.append {n : Nat} (hn : es.length = n) (h : RefA w0 w R g2 gm ga ρ cs an sl es) (hg : w.grownBy w' sl.ownBlock) {e : Ent} {g cap : Nat} (ho : w'.ownsRow w0.heap.size 99 3 (.slice (some ⟨g, 0, none⟩) (n + 1) cap) (n + 1) (es.flatMap Ent.vs ++ e.vs))
    (hat : sl.ownBlock = some g ∨ g = w.heap.size) : RefA w0 w' R g2 gm ga ρ cs an (.slice (some ⟨g, 0, none⟩) (n + 1) cap) (es ++ [e]) := by
  subst hn
  have k : Keeps (fun k => sl.ownBlock = some k) w w' := Keeps.of_grown hg (fun k hk _ => hk)
  have e1 : (es ++ [e]).length = es.length + 1 := by simp
  have e2 : (es ++ [e]).flatMap Ent.vs = es.flatMap Ent.vs ++ e.vs := by simp
  refine ⟨⟨⟨h.r.kept k (fun e => (h.nb _ e).1 rfl), h.z.kept k (fun e => (h.nb _ e).2.1 rfl), h.bl.trans (k.below (B := w0.heap.size) h.bl.size (fun b hk hb => by have := (h.own.lt b hb).1; omega)), h.hR, h.h2, h.n2⟩, h.m.kept k (fun e => (h.nb _ e).2.2.1 rfl), h.hm, h.n1, h.n3⟩,
    h.a.kept k (fun e => (h.nb _ e).2.2.2 rfl), h.ha, h.a1, h.a2, h.a3, by rw [e1, e2]; exact ho, ?_⟩
  intro b hb
  have hb' : g = b := by simpa [Value.ownBlock] using hb
  subst hb'
  rcases hat with h5 | h5
  · exact h.nb _ h5
  · have l1 := h.r.lt; have l2 := h.z.lt; have l3 := h.m.lt; have l4 := h.a.lt
    refine ⟨?_, ?_, ?_, ?_⟩ <;> omega
end
theorem refA_new {w0 w w' : World} {R g2 gm ga : Nat} {ρ : Rr} {cs an : List Value} (h : RefI w0 w R g2 gm ρ cs) (b : Blk w' ga 32 an) (hb : Below w.heap.size w w') (hg : ga = w.heap.size) : RefA w0 w' R g2 gm ga ρ cs an (.slice none 0 0) [] :=
  ⟨h.below hb, b, by rw [hg]; exact h.bl.size, by have := h.r.lt; omega, by have := h.z.lt; omega, by have := h.m.lt; omega, World.ownsRow_nil _ _ _ _, fun b hb => by cases hb⟩
theorem infoAtt : (Try.prog.info? 29).map (·.size) = some 4 := by kernel_rfl
theorem infoAns' : (Try.prog.info? 32).map (·.size) = some 13 := by kernel_rfl
def av (status : Int) (ah : Hd) (akind links size change : Int) (adata : ByteArray) (eof : Bool) (anum : Int) (sl : Value) : List Value := [.int .i64 status, .int .u32 ah.ex, .int .u64 ah.snap, .int .u64 ah.ino, .int .u64 ah.gen, .int .i64 akind, .int .u32 links, .int .u64 size, .int .u64 change, .string adata, .bool eof, .int .u64 anum, sl]
theorem av_one (status : Int) (ah : Hd) (akind links size change : Int) (adata : ByteArray) (eof : Bool) (anum : Int) (A : Option Addr) (n c : Nat) : ∀ v ∈ av status ah akind links size change adata eof anum (.slice A n c), v.oneCell' = true := by
  intro v hv
  simp only [av, List.mem_cons, List.not_mem_nil, or_false] at hv
  rcases hv with h | h | h | h | h | h | h | h | h | h | h | h | h <;> (subst h; rfl)
theorem full_eq (k c x status : Int) (ah : Hd) (akind links size change : Int) (adata : ByteArray) (eof : Bool) (anum : Int) (A : Option Addr) (n cap : Nat) (es : List Ent) (boot gb gn : Int) (m : Msg)
    (hm1 : m = ⟨k, c, x, 0, Hd.zero, Hd.zero, ⟨#[]⟩, ⟨#[]⟩, 0, 0, ⟨#[]⟩, status, ah, akind, links, size, change, adata, eof, anum, es, boot, gb, gn⟩) (hn : es.length = n) :
    setL (setL (setL (hm k c x) 17 (av status ah akind links size change adata eof anum (.slice A n cap))) 30 [.int .u64 boot]) 31 (stVs gb gn) = m.vs (.slice A m.list.length cap) := by
  subst hm1
  subst hn
  kernel_rfl
theorem refI_eq {w0 w : World} {R g2 gm : Nat} {ρ : Rr} {cs cs' : List Value} (e : cs = cs') (h : RefI w0 w R g2 gm ρ cs) : RefI w0 w R g2 gm ρ cs' := by subst e; exact h
theorem setL_length (vs : List Value) : ∀ (cs : List Value) (o : Nat), (setL cs o vs).length = cs.length := by
  induction vs with
  | nil => intro cs o; rfl
  | cons v vs ih => intro cs o; rw [setL, ih, List.length_set]
theorem setL_zero (vs : List Value) : ∀ (cs : List Value) (o : Nat), (setL cs (o + 1) vs)[0]? = cs[0]? := by
  induction vs with
  | nil => intro cs o; rfl
  | cons v vs ih => intro cs o; rw [setL, ih, List.getElem?_set_ne (by omega)]
theorem hm_zero (k c x : Int) : (hm k c x)[0]? = some (.int .i64 k) := rfl
theorem refA_eq {w0 w : World} {R g2 gm ga : Nat} {ρ : Rr} {cs cs' an : List Value} {sl : Value} {es : List Ent} (e : cs = cs') (h : RefA w0 w R g2 gm ga ρ cs an sl es) : RefA w0 w R g2 gm ga ρ cs' an sl es := by subst e; exact h
theorem entV_one (n : ByteArray) (i c : Int) : ∀ v ∈ Ent.vs ⟨n, i, c⟩, v.oneCell' = true := by
  intro v hv
  simp only [Ent.vs, List.mem_cons, List.not_mem_nil, or_false] at hv
  rcases hv with h | h | h <;> (subst h; rfl)
theorem news_row (w : World) (cs : List Value) (t : TypeId) : ∀ j u, cs[j]? = some u → (w.alloc (.cells cs.toArray t)).cell? ((⟨w.heap.size, 0, none⟩ : Addr).add j) = some u := fun j u hu =>
  World.news_of_block (heap_alloc_new w (.cells cs.toArray t)) j u hu
def atVs (akind links size change : Int) : List Value := [.int .i64 akind, .int .u32 links, .int .u64 size, .int .u64 change]
theorem atVs_one (akind links size change : Int) : ∀ v ∈ atVs akind links size change, v.oneCell' = true := by
  intro v hv
  simp only [atVs, List.mem_cons, List.not_mem_nil, or_false] at hv
  rcases hv with h | h | h | h <;> (subst h; rfl)
theorem RefA.c12 {w0 w : World} {R g2 gm ga : Nat} {ρ : Rr} {cs : List Value} {sl : Value} {es : List Ent} {status : Int} {ah : Hd} {akind links size change : Int} {adata : ByteArray} {eof : Bool} {anum : Int} (h : RefA w0 w R g2 gm ga ρ cs (av status ah akind links size change adata eof anum sl) sl es) : w.cell? ⟨ga, 12, none⟩ = some sl := h.a.cell 12 rfl

set_option maxHeartbeats 8000000 in
set_option maxRecDepth 100000 in
theorem refdec_reply (s : ByteArray) (ρ0 ρ1 ρ2 ρ3 ρ4 ρ5 ρ6 ρ7 ρ8 ρ9 ρ10 ρ11 ρ12 : Rr) (hρ0 : Hid (ρ0 = ⟨s, false⟩)) (k c x status : Int) (ah : Hd) (akind links size change : Int) (adata : ByteArray) (fl anum : Int) (N : Nat)
    (er a1 a2 b1 b2 : Nat → Rr) (nmE r : Nat → ByteArray) (bd : Nat → Bool) (ino ck boot gb gn : Nat → Int) (es : Nat → List Ent)
    (C1 : Hid (NumC ρ0 ρ1 1 k)) (C2 : Hid (NumC ρ1 ρ2 4 c)) (C3 : Hid (NumC ρ2 ρ3 8 x)) (C4 : Hid (NumC ρ3 ρ4 1 status)) (C5 : Hid (HdC ρ4 ρ5 ah)) (C6 : Hid (NumC ρ5 ρ6 1 akind)) (C7 : Hid (NumC ρ6 ρ7 4 links)) (C8 : Hid (NumC ρ7 ρ8 8 size)) (C9 : Hid (NumC ρ8 ρ9 8 change)) (C10 : Hid (TxtC ρ9 ρ10 adata)) (C11 : Hid (NumC ρ10 ρ11 1 fl)) (C12 : Hid (NumC ρ11 ρ12 8 anum)) (C13 : Hid (NumC ρ12 (er 0) 4 (N : Int)))
    (CT : Hid (∀ j, TxtC (er j) (a1 j) (nmE j))) (CI : Hid (∀ j, NumC (a1 j) (a2 j) 8 (ino j))) (CK : Hid (∀ j, NumC (a2 j) (er (j + 1)) 8 (ck j))) (CB : Hid (∀ j, NumC (er j) (b1 j) 8 (boot j))) (CG : Hid (∀ j, NumC (b1 j) (b2 j) 8 (gb j))) (CN : Hid (∀ j, NumC (b2 j) ⟨r j, bd j⟩ 8 (gn j)))
    (hes0 : Hid (es 0 = [])) (hesS : Hid (∀ j, es (j + 1) = es j ++ [⟨nmE j, ino j, ck j⟩])) (hesl : Hid (∀ j, (es j).length = j))
    (k0 : 0 ≤ k) (k9 : k ≤ 255) (c0' : 0 ≤ c) (c9 : c ≤ 4294967295) (s0 : 0 ≤ status) (s9 : status ≤ 255) (d0 : 0 ≤ akind) (d9 : akind ≤ 255) (l0 : 0 ≤ links) (l9 : links ≤ 4294967295) (hN9 : Hid (N ≤ 4294967295)) (kb1 : (k == 1) = false) (kb2 : (k == 2) = true) (kn : (k != 1) = true)
    (mm : Nat → Msg) (hm1 : Hid (∀ j, mm j = ⟨k, c, x, 0, Hd.zero, Hd.zero, ⟨#[]⟩, ⟨#[]⟩, 0, 0, ⟨#[]⟩, status, ah, akind, links, size, change, adata, (fl == 1), anum, es j, boot j, gb j, gn j⟩))
    (hok : Hid (∀ j, j ≤ 65 → (mm j).Ok)) (hfw : Hid (∀ j, j ≤ N → j ≤ 65 → (j < N → 64 < j ∨ (er j).bad = true) → decOk s = true → bd j = false ∧ (r j).size = 0 ∧ (mm j).refE = (s, 0))) (w : World) :
    Calls Try.prog 15 #[.string s] w (RefPost s w) := by
  go_enter Try.func15, Try.ntmps15
  go_wp2_with (first
    | ((with_reducible refine gate_dst (N := 2) rfl ?_); refine box_event rfl (N := 2) rfl (run_allocM _ _ rfl _) ?_; intro g2 hg2 v1 hbox hbel; have BZ := Lib.hid (show Blk v1 g2 36 zcs from hbox); have BLg2 := Lib.hid hbel; have Hg2 := Lib.hid hg2; clear hbox hbel hg2)
    | ((with_reducible refine gate_dst (N := 13) rfl ?_); refine box_event rfl (N := 13) rfl (run_box _ _ _ 95 _ #[.string s, .bool false] rfl rfl _) ?_; intro gR hgR u0 hbox hbel; have BR := Lib.hid (show Blk u0 gR 95 [.string s, .bool false] from hbox); have BLR := Lib.hid hbel; have HgR := Lib.hid hgR; clear hbox hbel hgR))
  have Iu0 : Hid (RefH w u0 gR g2 ρ0) := Lib.hid ⟨hρ0.out ▸ BR.out, BZ.out.below BLR.out, BLg2.out.trans (BLR.out.mono BLg2.out.size), by rw [HgR.out]; exact BLg2.out.size, Nat.le_of_eq Hg2.out.symm, by have := BZ.out.lt; have := HgR.out; omega⟩
  clear BR BZ BLR BLg2 HgR Hg2
  refine (C1.out _ u0 Iu0.out.r).mono ?_
  rintro e u1 ⟨rfl, q⟩
  have Iu1 := Lib.hid (Iu0.out.next q); clear q
  go_wp2_with fail
  refine (C2.out _ u1 Iu1.out.r).mono ?_
  rintro e u2 ⟨rfl, q⟩
  have Iu2 := Lib.hid (Iu1.out.next q); clear q
  go_wp2_with fail
  refine (C3.out _ u2 Iu2.out.r).mono ?_
  rintro e u3 ⟨rfl, q⟩
  have Iu3 := Lib.hid (Iu2.out.next q); clear q
  go_wp2_with (first
    | ((with_reducible refine gate_dst (N := 22) rfl ?_); refine Kd.event_run (v := .agg (hm k c x).toArray) rfl ?hr ?_; (case hr => go_simp; rfl))
    | ((with_reducible refine gate_dst (N := 5) rfl ?_); refine box_event rfl (N := 5) rfl (run_allocM _ _ rfl _) ?_; intro gm hgm v5 hbox hbel; have Bgm := Lib.hid (show Blk v5 gm 36 zcs from hbox); have BLgm := Lib.hid hbel; have Hgm := Lib.hid hgm; clear hbox hbel hgm)
    | ((with_reducible refine gate_store (t := 36) (p := 5) rfl ?_); refine wpList_store_mid rfl 36 _ _ rfl gm 0 (hm k c x).toArray rfl rfl ?ht ?hi ?h1 ?_; (case ht => exact Bgm.out.there _ (by rw [List.size_toArray, hm_len k c x]; exact Nat.le_refl 33)); (case hi => rw [List.size_toArray, hm_len k c x]; exact infoMsg); (case h1 => exact all_oneCell_toArray (hm_one k c x)); have B2gm := Lib.hid (Bgm.out.setAll (hm k c x) (by rw [hm_len k c x]; rfl)); have Kgm := Lib.hid (Keeps.setCells (S := fun k => k = gm) (hm k c x) 0 v5 (Keeps.refl _ _) (fun _ => rfl)); change wpList _ _ _ _ _ (v5.setCells gm 0 (hm k c x)); generalize v5.setCells gm 0 (hm k c x) = u4 at B2gm Kgm ⊢; have BMgm := Lib.hid (BLgm.out.trans (Kgm.out.below BLgm.out.size (fun k hk => by show ¬ k = gm; have := Hgm.out; omega))); have HHgm := Lib.hid Hgm.out; clear Bgm BLgm Kgm Hgm; have Iu4 : Hid (RefI w u4 gR g2 gm ρ3 (hm k c x)) := Lib.hid (refI_new Iu3.out B2gm.out BMgm.out HHgm.out); clear Iu3 B2gm BMgm HHgm; have c0 := Iu4.out.m.cell 0 rfl))
  refine (C4.out _ _ Iu4.out.r).mono ?_
  rintro e u5 ⟨rfl, q⟩
  have Iu5 := Lib.hid (Iu4.out.next q); clear q
  go_wp2_with fail
  refine (C5.out _ _ Iu5.out.r).mono ?_
  rintro e u6 ⟨rfl, q⟩
  have Iu6 := Lib.hid (Iu5.out.next q); clear q
  go_wp2_with (first
    | ((with_reducible refine gate_dst (N := 6) rfl ?_); refine box_event rfl (N := 6) rfl (run_allocAns _ _ rfl _) ?_; intro ga hga v7 hbox hbel; have J0 := Lib.hid (refA_new Iu6.out (show Blk v7 ga 32 zans from hbox) hbel hga); clear hbox hbel hga)
    | ((with_reducible refine gate_store (t := 32) (p := 6) rfl ?_); refine wpList_store_mid rfl 32 _ _ rfl ga 0 (av status ah 0 0 0 0 ⟨#[]⟩ false 0 (.slice none 0 0)).toArray rfl rfl ?ht ?hi ?h1 ?_; (case ht => exact J0.out.a.thereMid 0 13 (show (13 : Nat) ≤ 13 from by decide)); (case hi => exact infoAns'); (case h1 => exact all_oneCell_toArray (av_one _ _ _ _ _ _ _ _ _ _ _ _)); have Iu7 := Lib.hid (RefA.sets (av status ah 0 0 0 0 ⟨#[]⟩ false 0 (.slice none 0 0)) 0 _ _ J0.out); change wpList _ _ _ _ _ (World.setCells v7 ga 0 (av status ah 0 0 0 0 ⟨#[]⟩ false 0 (.slice none 0 0))); change Hid (RefA w (World.setCells v7 ga 0 (av status ah 0 0 0 0 ⟨#[]⟩ false 0 (.slice none 0 0))) _ _ _ _ _ _ _ _ _) at Iu7; generalize World.setCells v7 ga 0 (av status ah 0 0 0 0 ⟨#[]⟩ false 0 (.slice none 0 0)) = u7 at Iu7 ⊢))
  have Iu7 : Hid (RefA w u7 gR g2 gm ga ρ5 (hm k c x) (av status ah 0 0 0 0 ⟨#[]⟩ false 0 (.slice none 0 0)) (.slice none 0 0) []) := Iu7
  clear J0 Iu4 Iu5 Iu6 c0
  refine (C6.out _ _ Iu7.out.r).mono ?_
  rintro e u8 ⟨rfl, q⟩
  have Iu8 := Lib.hid (Iu7.out.next q); clear q
  go_wp2_with fail
  refine (C7.out _ _ Iu8.out.r).mono ?_
  rintro e u9 ⟨rfl, q⟩
  have Iu9 := Lib.hid (Iu8.out.next q); clear q
  go_wp2_with fail
  refine (C8.out _ _ Iu9.out.r).mono ?_
  rintro e u10 ⟨rfl, q⟩
  have Iu10 := Lib.hid (Iu9.out.next q); clear q
  go_wp2_with fail
  refine (C9.out _ _ Iu10.out.r).mono ?_
  rintro e u11 ⟨rfl, q⟩
  have Iu11 := Lib.hid (Iu10.out.next q); clear q
  go_wp2_with (first
    | ((with_reducible refine gate_store (t := 29) (p := 68) rfl ?_); refine wpList_store_mid rfl 29 _ _ rfl ga 5 (atVs akind links size change).toArray rfl rfl ?ht ?hi ?h1 ?_; (case ht => exact Iu11.out.a.thereMid 5 4 (show (9 : Nat) ≤ 13 from by decide)); (case hi => exact infoAtt); (case h1 => exact all_oneCell_toArray (atVs_one _ _ _ _)); have Iu12 := Lib.hid (RefA.sets (atVs akind links size change) 5 _ _ Iu11.out); change wpList _ _ _ _ _ (World.setCells u11 ga 5 (atVs akind links size change)); change Hid (RefA w (World.setCells u11 ga 5 (atVs akind links size change)) _ _ _ _ _ _ _ _ _) at Iu12; generalize World.setCells u11 ga 5 (atVs akind links size change) = u12 at Iu12 ⊢))
  clear Iu7 Iu8 Iu9 Iu10 Iu11
  refine (C10.out _ _ Iu12.out.r).mono ?_
  rintro e u13 ⟨rfl, q⟩
  have Iu13 := Lib.hid (Iu12.out.next q); clear q
  have a9 := Iu13.out.a.cell 9 rfl
  have f9 := Iu13.out.a.frozen 9
  go_wp2_with fail
  have Iv := Lib.hid (Iu13.out.set 9 (.string adata))
  clear a9 f9
  refine (C11.out _ _ Iv.out.r).mono ?_
  rintro e u14 ⟨rfl, q⟩
  have Iu14 := Lib.hid (Iv.out.next q); clear q
  clear Iv Iu13
  have a10 := Iu14.out.a.cell 10 rfl
  have f10 := Iu14.out.a.frozen 10
  go_wp2_with fail
  have Iv := Lib.hid (Iu14.out.set 10 (.bool (fl == 1)))
  clear a10 f10
  refine (C12.out _ _ Iv.out.r).mono ?_
  rintro e u15 ⟨rfl, q⟩
  have Iu15 := Lib.hid (Iv.out.next q); clear q
  clear Iv Iu14
  have a11 := Iu15.out.a.cell 11 rfl
  have f11 := Iu15.out.a.frozen 11
  go_wp2_with fail
  have Iv := Lib.hid (Iu15.out.set 11 (.int .u64 anum))
  clear a11 f11
  refine (C13.out _ _ Iv.out.r).mono ?_
  rintro e u16 ⟨rfl, q⟩
  have Iu16 := Lib.hid (Iv.out.next q); clear q
  clear Iv Iu15
  have F0 : Hid (RefA w u16 gR g2 gm ga (er 0) (hm k c x) (av status ah akind links size change adata (fl == 1) anum (.slice none 0 0)) (.slice none (es 0).length 0) (es 0)) := Lib.hid (by rw [hes0.out]; exact Iu16.out)
  clear Iu16
  go_wp2_with fail
  go_loopw [8] (fun i wr => ∃ (j : Nat) (A : Option Addr) (cap : Nat), j ≤ N ∧ j ≤ 65 ∧ i = .int .u64 j ∧ RefA w wr gR g2 gm ga (er j) (hm k c x) (av status ah akind links size change adata (fl == 1) anum (.slice A j cap)) (.slice A j cap) (es j)) (fun i _ => 65 - (intOf i).toNat)
  case atStart => exact ⟨0, none, 0, Nat.zero_le _, by omega, rfl, by have := F0.out; rw [hesl.out 0] at this; exact this⟩
  case round =>
    obtain ⟨j, A, cap, hjN, hj65, rfl, f⟩ := hrel
    clear F0
    have F := Lib.hid f
    clear f
    have r1 : wr.cell? ⟨gR, 1, none⟩ = some (.bool (er j).bad) := F.out.r.cell 1 rfl
    have HL := Lib.hid (hesl.out j)
    by_cases hst : j < N ∧ j ≤ 64 ∧ (er j).bad = false
    · have hlt : (j : Int) < (N : Int) := by omega
      have h64 : (j : Int) ≤ 64 := by omega
      rw [hst.2.2] at r1
      have Hst := Lib.hid hst
      clear hst
      go_wp2_with fail
      have c12 := F.out.c12
      have f0 := F.out
      obtain ⟨i0, hi0, hz0, hz1, hz2⟩ := info_parts infoEnt
      have hj1 : j + 1 ≤ maxLen := by have : (66 : Nat) ≤ maxLen := by decide
                                      omega
      have hj2 : (j + 1) * 32 ≤ 140737488355328 := by omega
      have one := entV_one (nmE j) (ino j) (ck j)
      go_region_law
        ((first
          | (go_simp; go_at_call 42; refine (CT.out j _ _ (by first | exact f0.r | exact f0.drew.r)).mono ?_; rintro e w' ⟨rfl, q0⟩; have q := RefA.next (by first | exact f0 | exact f0.drew) q0; have c12 := q.c12; clear q0)
          | (go_simp; go_at_call 40; refine (CI.out j _ _ (RefA.rr (by assumption))).mono ?_; rintro e w' ⟨rfl, q0⟩; have q := RefA.next (by assumption) q0; have c12 := q.c12; clear q0)
          | (go_simp; go_at_call 40; refine (CK.out j _ _ (RefA.rr (by assumption))).mono ?_; rintro e w' ⟨rfl, q0⟩; have q := RefA.next (by assumption) q0; have c12 := q.c12; have c12a : ∀ o, (w'.alloc o).cell? ⟨ga, 12, none⟩ = some (.slice A j cap) := fun o => (q.alloc o).c12; clear q0)
          | (refine step_append_lies _ (by rfl) _ _ _ (by rfl) w.heap.size 99 i0 _ 3 32 Try.underlying30 hi0 hz0 hz1 hz2 (by rfl) (by omega) (.slice A j cap) j ((es j).flatMap Ent.vs) (by rfl) (RefA.own2 (by assumption) HL.out _) _ 1 1 (Ent.vs ⟨nmE j, ino j, ck j⟩) (by rfl) rfl (news_row _ _ _) one (by omega) hj1 hj2 (RefA.szx (by assumption) _) _ rfl ?_; intro g cap2 w1 hown hgrow hat hlt; have q2 := RefA.append HL.out (RefA.alloc (by assumption) _) hgrow hown hat; have c12 := q2.a.cell 12 rfl; have f12 := q2.a.frozen 12; have Q2 := Lib.hid q2; clear hown hgrow hat hlt q2)))
      all_goals
        have F2 := Lib.hid (RefA.set Q2.out 12 (.slice (some ⟨g, 0, none⟩) (j + 1) cap2))
        rw [← hesS.out j] at F2
        clear Q2 c12 f12 f0 one hj1 hj2 hi0 hz0 hz1 hz2
        go_wp2_with fail
        go_roundw
        case rel => exact ⟨j + 1, some ⟨g, 0, none⟩, cap2, by omega, by omega, by go_num, F2.out⟩
        case measure => simp [intOf]; omega
    · rcases (show ¬ j < N ∨ (j < N ∧ ¬ j ≤ 64) ∨ (j < N ∧ j ≤ 64 ∧ (er j).bad = true) from by
        by_cases h1 : j < N
        · by_cases h2 : j ≤ 64
          · exact .inr (.inr ⟨h1, h2, by cases hb : (er j).bad
                                         · exact absurd ⟨h1, h2, hb⟩ hst
                                         · rfl⟩)
          · exact .inr (.inl ⟨h1, h2⟩)
        · exact .inl h1) with h | h | h
      · skip
        have g1 : ¬ (j : Int) < (N : Int) := by omega
        have hjc : j < N → 64 < j ∨ (er j).bad = true := fun h2 => absurd h2 h
        clear h hst r1
        have HJ := Lib.hid hjc
        clear hjc
        go_wp2_with (first
          | ((with_reducible refine gate_dst (N := 109) rfl ?_); refine wpList_load_mid rfl 32 _ rfl ga 0 rfl (av status ah akind links size change adata (fl == 1) anum (.slice A j cap)) _ ?hc Try.underlying32 rfl ?hi ?_; (case hc => exact F.out.a.range); (case hi => exact infoAns'))
          | ((with_reducible refine gate_store (t := 32) (p := 110) rfl ?_); refine wpList_store_mid rfl 32 _ _ rfl gm 17 (av status ah akind links size change adata (fl == 1) anum (.slice A j cap)).toArray rfl rfl ?ht ?hi ?h1 ?_; (case ht => exact F.out.m.thereMid 17 13 (by rw [hm_len]; decide)); (case hi => exact infoAns'); (case h1 => exact all_oneCell_toArray (av_one _ _ _ _ _ _ _ _ _ _ _ _)); have Ku20 := Lib.hid (RefA.msgs F.out (av status ah akind links size change adata (fl == 1) anum (.slice A j cap)) 17); change wpList _ _ _ _ _ (World.setCells wr gm 17 (av status ah akind links size change adata (fl == 1) anum (.slice A j cap))); change Hid (RefA w (World.setCells wr gm 17 (av status ah akind links size change adata (fl == 1) anum (.slice A j cap))) _ _ _ _ _ _ _ _ _) at Ku20; generalize World.setCells wr gm 17 (av status ah akind links size change adata (fl == 1) anum (.slice A j cap)) = u20 at Ku20 ⊢; obtain ⟨cs20, h20⟩ : ∃ y, Hid (setL (hm k c x) 17 (av status ah akind links size change adata (fl == 1) anum (.slice A j cap)) = y) := ⟨_, Lib.hid rfl⟩; replace Ku20 := Lib.hid (refA_eq h20.out Ku20.out); have H20 : Hid (cs20.length = 33) := Lib.hid (by rw [← h20.out, setL_length]; exact hm_len k c x); have c0 := Ku20.out.m.cell 0 (by rw [← h20.out, setL_zero]; exact hm_zero k c x)))
        refine (CB.out j _ _ Ku20.out.r).mono ?_
        rintro e u21 ⟨rfl, q⟩
        have Ku21 := Lib.hid (Ku20.out.next q); clear q
        have c30 := Ku21.out.m.cell 30 (List.getElem?_eq_getElem (by rw [H20.out]; decide))
        have f30 := Ku21.out.m.frozen 30
        have Kv := Lib.hid (Ku21.out.msgs [.int .u64 (boot j)] 30)
        go_wp2_with fail
        refine (CG.out j _ _ Kv.out.r).mono ?_
        rintro e u22 ⟨rfl, q⟩
        have Ku22 := Lib.hid (Kv.out.next q); clear q
        go_wp2_with fail
        refine (CN.out j _ _ Ku22.out.r).mono ?_
        rintro e u23 ⟨rfl, q⟩
        have Ku23 := Lib.hid (Ku22.out.next q); clear q Ku22 Kv Ku21 Ku20
        have hmj := hm1.out j
        have okj := hok.out j hj65
        have fwj := hfw.out j hjN hj65 HJ.out
        generalize mm j = m at hmj okj fwj
        have hm1 := Lib.hid hmj
        have hok := Lib.hid okj
        have hcj : m.list.length ≤ cap := by rw [hm1.out]; show (es j).length ≤ cap; rw [hesl.out j]; exact (ownsRow_ents (F.out.own3 (hesl.out j))).2
        generalize r j = r2 at *
        generalize bd j = bd2 at *
        have hfw := Lib.hid fwj
        clear hmj okj fwj
        obtain ⟨cs, hcs⟩ : ∃ cs, cs = m.vs (.slice A m.list.length cap) := ⟨_, rfl⟩
        have Hco : Hid (∀ v ∈ cs, v.oneCell' = true) := Lib.hid (by rw [hcs]; exact m.one _ _ _)
        have Hcl : Hid (cs.length = 33) := Lib.hid (by rw [hcs]; rfl)
        have HE : Hid (∀ w, EntsR w A m.list → Calls Try.prog 10 #[.agg cs.toArray] w fun e w' => e = .returned (.tuple #[.string m.refE.1, .int .i64 m.refE.2]) ∧ Below w.heap.size w w') := Lib.hid (fun w h => by rw [hcs]; exact refEncode_any m A cap hok.out hcj w h)
        have Hk0 : Hid (cs[0]? = some (.int .i64 k)) := Lib.hid (by rw [hcs, hm1.out]; rfl)
        have Hcs0 : Hid (setL (setL cs20 30 [.int .u64 (boot j)]) 31 (stVs (gb j) (gn j)) = cs) := Lib.hid (by rw [hcs, ← h20.out]; exact full_eq _ _ _ _ _ _ _ _ _ _ _ _ _ _ _ _ _ _ _ m hm1.out (hesl.out j))
        have Hcs := Lib.hid hcs
        have Hml : Hid (m.list = es j) := Lib.hid (by rw [hm1.out])
        have NA : Hid (∀ b o, A = some ⟨b, o, none⟩ → b ≠ g2) := Lib.hid (fun b o e => (F.out.nb b (by rw [e]; rfl)).2.1); have NB : Hid (∀ b o, A = some ⟨b, o, none⟩ → w.heap.size ≤ b) := Lib.hid (fun b o e => (F.out.own.lt b (by rw [e]; rfl)).1)
        clear hcs hcj
        cases bd2
        rotate_left
        · skip
          go_wp2_with (first
          | ((with_reducible refine gate_store (t := 34) (p := 129) rfl ?_); refine wpList_store_mid rfl 34 _ _ rfl gm 31 (stVs (gb j) (gn j)).toArray rfl rfl ?ht ?hi ?h1 ?_; (case ht => exact Ku23.out.m.thereMid 31 2 (by rw [setL_length, H20.out]; decide)); (case hi => exact infoStamp); (case h1 => exact all_oneCell_toArray (stVs_one _ _)); have Ku24 := Lib.hid (RefA.msgs Ku23.out (stVs (gb j) (gn j)) 31); change wpList _ _ _ _ _ (World.setCells u23 gm 31 (stVs (gb j) (gn j))); change Hid (RefA w (World.setCells u23 gm 31 (stVs (gb j) (gn j))) _ _ _ _ _ _ _ _ _) at Ku24; generalize World.setCells u23 gm 31 (stVs (gb j) (gn j)) = u24 at Ku24 ⊢; have EA : Hid (EntsR u24 A m.list) := Lib.hid (by rw [Hml.out]; exact (ownsRow_ents (Ku24.out.own3 (hesl.out j))).1); have Iu24 := Lib.hid (refI_eq Hcs0.out Ku24.out.toRefI); clear Ku24; have r0 := Iu24.out.r.cell 0 rfl; have r1 := Iu24.out.r.cell 1 rfl; dsimp only at r0 r1; have c0 := Iu24.out.m.cell 0 Hk0.out)
            | ((with_reducible refine gate_dst (N := 156) rfl ?_); refine Kd.event_run rfl (run_buildM _ _ rfl _) ?_)
            | ((with_reducible refine gate_store (t := 36) (p := 2) rfl ?_); refine wpList_store_mid rfl 36 _ _ rfl g2 0 zcs.toArray rfl rfl ?ht ?hi ?h1 ?_; (case ht => exact Iu24.out.z.there 33 (Nat.le_refl 33)); (case hi => exact infoMsg); (case h1 => exact all_oneCell_toArray zcs_one); have OV := Lib.hid (Iu24.out.over zcs rfl); change wpList _ _ _ _ _ (u24.setCells g2 0 zcs); generalize u24.setCells g2 0 zcs = vz at OV ⊢))
          refine bodyPost_ret (v := .tuple #[.agg zcs.toArray, .int .i64 2200]) (results_cell_tmp Try.results15 (by rfl) (by rfl) (load_msg OV.out.1 zcs_len)) rfl ⟨Msg.zero, none, 0, 2200, rfl, ⟨ents_nil _ _, no_addr _⟩, OV.out.2.1, .inr ⟨rfl, rfl, ?_⟩⟩
          cases hd : decOk s
          · rfl
          · exact absurd (hfw.out hd) (by rintro ⟨h1, _⟩; cases h1)
        rcases orFalse ((r2.size : Int) == 0) with z0 | z0
        rotate_left
        · skip
          go_wp2_with (first
          | ((with_reducible refine gate_store (t := 34) (p := 129) rfl ?_); refine wpList_store_mid rfl 34 _ _ rfl gm 31 (stVs (gb j) (gn j)).toArray rfl rfl ?ht ?hi ?h1 ?_; (case ht => exact Ku23.out.m.thereMid 31 2 (by rw [setL_length, H20.out]; decide)); (case hi => exact infoStamp); (case h1 => exact all_oneCell_toArray (stVs_one _ _)); have Ku24 := Lib.hid (RefA.msgs Ku23.out (stVs (gb j) (gn j)) 31); change wpList _ _ _ _ _ (World.setCells u23 gm 31 (stVs (gb j) (gn j))); change Hid (RefA w (World.setCells u23 gm 31 (stVs (gb j) (gn j))) _ _ _ _ _ _ _ _ _) at Ku24; generalize World.setCells u23 gm 31 (stVs (gb j) (gn j)) = u24 at Ku24 ⊢; have EA : Hid (EntsR u24 A m.list) := Lib.hid (by rw [Hml.out]; exact (ownsRow_ents (Ku24.out.own3 (hesl.out j))).1); have Iu24 := Lib.hid (refI_eq Hcs0.out Ku24.out.toRefI); clear Ku24; have r0 := Iu24.out.r.cell 0 rfl; have r1 := Iu24.out.r.cell 1 rfl; dsimp only at r0 r1; have c0 := Iu24.out.m.cell 0 Hk0.out)
            | ((with_reducible refine gate_dst (N := 156) rfl ?_); refine Kd.event_run rfl (run_buildM _ _ rfl _) ?_)
            | ((with_reducible refine gate_store (t := 36) (p := 2) rfl ?_); refine wpList_store_mid rfl 36 _ _ rfl g2 0 zcs.toArray rfl rfl ?ht ?hi ?h1 ?_; (case ht => exact Iu24.out.z.there 33 (Nat.le_refl 33)); (case hi => exact infoMsg); (case h1 => exact all_oneCell_toArray zcs_one); have OV := Lib.hid (Iu24.out.over zcs rfl); change wpList _ _ _ _ _ (u24.setCells g2 0 zcs); generalize u24.setCells g2 0 zcs = vz at OV ⊢))
          refine bodyPost_ret (v := .tuple #[.agg zcs.toArray, .int .i64 2200]) (results_cell_tmp Try.results15 (by rfl) (by rfl) (load_msg OV.out.1 zcs_len)) rfl ⟨Msg.zero, none, 0, 2200, rfl, ⟨ents_nil _ _, no_addr _⟩, OV.out.2.1, .inr ⟨rfl, rfl, ?_⟩⟩
          cases hd : decOk s
          · rfl
          · exact absurd (hfw.out hd) (by rintro ⟨_, h1, _⟩; simp [h1] at z0)
        go_wp2_with (first
          | ((with_reducible refine gate_store (t := 34) (p := 129) rfl ?_); refine wpList_store_mid rfl 34 _ _ rfl gm 31 (stVs (gb j) (gn j)).toArray rfl rfl ?ht ?hi ?h1 ?_; (case ht => exact Ku23.out.m.thereMid 31 2 (by rw [setL_length, H20.out]; decide)); (case hi => exact infoStamp); (case h1 => exact all_oneCell_toArray (stVs_one _ _)); have Ku24 := Lib.hid (RefA.msgs Ku23.out (stVs (gb j) (gn j)) 31); change wpList _ _ _ _ _ (World.setCells u23 gm 31 (stVs (gb j) (gn j))); change Hid (RefA w (World.setCells u23 gm 31 (stVs (gb j) (gn j))) _ _ _ _ _ _ _ _ _) at Ku24; generalize World.setCells u23 gm 31 (stVs (gb j) (gn j)) = u24 at Ku24 ⊢; have EA : Hid (EntsR u24 A m.list) := Lib.hid (by rw [Hml.out]; exact (ownsRow_ents (Ku24.out.own3 (hesl.out j))).1); have Iu24 := Lib.hid (refI_eq Hcs0.out Ku24.out.toRefI); clear Ku24; have r0 := Iu24.out.r.cell 0 rfl; have r1 := Iu24.out.r.cell 1 rfl; dsimp only at r0 r1; have c0 := Iu24.out.m.cell 0 Hk0.out)
          | ((with_reducible refine gate_dst (N := 144) rfl ?_); refine wpList_load_mid rfl 36 _ rfl gm 0 rfl cs _ ?hc Try.underlying36 rfl ?hi ?_; (case hc => exact Iu24.out.m.range); (case hi => rw [Hcl.out]; exact infoMsg)))
        refine (HE.out _ EA.out).mono ?_
        rintro e ue ⟨rfl, hb⟩
        have Iue := Lib.hid (Iu24.out.below hb)
        have EE := Lib.hid (EA.out.below hb)
        clear hb r0 r1
        generalize hE1 : m.refE.1 = E1 at *
        generalize hE2 : m.refE.2 = E2 at *
        have HE1 := Lib.hid hE1; have HE2 := Lib.hid hE2
        clear hE1 hE2
        rcases orFalse (E2 == 0) with z1 | z1
        rotate_left
        · skip
          go_wp2_with (first
            | ((with_reducible refine gate_dst (N := 156) rfl ?_); refine Kd.event_run rfl (run_buildM _ _ rfl _) ?_)
            | ((with_reducible refine gate_store (t := 36) (p := 2) rfl ?_); refine wpList_store_mid rfl 36 _ _ rfl g2 0 zcs.toArray rfl rfl ?ht ?hi ?h1 ?_; (case ht => exact Iue.out.z.there 33 (Nat.le_refl 33)); (case hi => exact infoMsg); (case h1 => exact all_oneCell_toArray zcs_one); have OV := Lib.hid (Iue.out.over zcs rfl); change wpList _ _ _ _ _ (ue.setCells g2 0 zcs); generalize ue.setCells g2 0 zcs = vz at OV ⊢))
          refine bodyPost_ret (v := .tuple #[.agg zcs.toArray, .int .i64 2200]) (results_cell_tmp Try.results15 (by rfl) (by rfl) (load_msg OV.out.1 zcs_len)) rfl ⟨Msg.zero, none, 0, 2200, rfl, ⟨ents_nil _ _, no_addr _⟩, OV.out.2.1, .inr ⟨rfl, rfl, ?_⟩⟩
          cases hd : decOk s
          · rfl
          · exact absurd (hfw.out hd) (by rintro ⟨_, _, h1⟩; rw [← HE2.out, h1] at z1; cases z1)
        rcases orFalse (E1.toList == s.toList) with z2 | z2
        rotate_left
        · skip
          go_wp2_with (first
            | ((with_reducible refine gate_dst (N := 156) rfl ?_); refine Kd.event_run rfl (run_buildM _ _ rfl _) ?_)
            | ((with_reducible refine gate_store (t := 36) (p := 2) rfl ?_); refine wpList_store_mid rfl 36 _ _ rfl g2 0 zcs.toArray rfl rfl ?ht ?hi ?h1 ?_; (case ht => exact Iue.out.z.there 33 (Nat.le_refl 33)); (case hi => exact infoMsg); (case h1 => exact all_oneCell_toArray zcs_one); have OV := Lib.hid (Iue.out.over zcs rfl); change wpList _ _ _ _ _ (ue.setCells g2 0 zcs); generalize ue.setCells g2 0 zcs = vz at OV ⊢))
          refine bodyPost_ret (v := .tuple #[.agg zcs.toArray, .int .i64 2200]) (results_cell_tmp Try.results15 (by rfl) (by rfl) (load_msg OV.out.1 zcs_len)) rfl ⟨Msg.zero, none, 0, 2200, rfl, ⟨ents_nil _ _, no_addr _⟩, OV.out.2.1, .inr ⟨rfl, rfl, ?_⟩⟩
          cases hd : decOk s
          · rfl
          · exact absurd (hfw.out hd) (by rintro ⟨_, _, h1⟩; rw [← HE1.out, h1] at z2; simp at z2)
        go_wp2_with (first
          | ((with_reducible refine gate_dst (N := 155) rfl ?_); refine wpList_load_mid rfl 36 _ rfl gm 0 rfl cs _ ?hc Try.underlying36 rfl ?hi ?_; (case hc => exact Iue.out.m.range); (case hi => rw [Hcl.out]; exact infoMsg))
          | ((with_reducible refine gate_store (t := 36) (p := 2) rfl ?_); refine wpList_store_mid rfl 36 _ _ rfl g2 0 cs.toArray rfl rfl ?ht ?hi ?h1 ?_; (case ht => exact Iue.out.z.there _ (by rw [List.size_toArray, Hcl.out]; exact Nat.le_refl 33)); (case hi => rw [List.size_toArray, Hcl.out]; exact infoMsg); (case h1 => exact all_oneCell_toArray Hco.out); have OV := Lib.hid (Iue.out.over cs Hcl.out); change wpList _ _ _ _ _ (ue.setCells g2 0 cs); generalize ue.setCells g2 0 cs = vz at OV ⊢))
        refine bodyPost_ret (v := .tuple #[.agg cs.toArray, .int .i64 0]) (results_cell_tmp Try.results15 (by rfl) (by rfl) (load_msg OV.out.1 Hcl.out)) rfl ⟨m, A, cap, 0, by rw [Hcs.out], ⟨OV.out.2.2 A m.list NA.out EE.out, NB.out⟩, OV.out.2.1, .inl ⟨rfl, hok.out, ?_⟩⟩
        have e1 : E1 = s := ba_inj (by simpa using z2)
        have e2 : E2 = 0 := by simpa using z1
        exact Prod.ext (HE1.out.trans e1) (HE2.out.trans e2)
      · skip
        have g1 : (j : Int) < (N : Int) := by omega
        have g2' : ¬ (j : Int) ≤ 64 := by omega
        have hjc : j < N → 64 < j ∨ (er j).bad = true := fun h2 => .inl (by omega)
        clear h hst r1
        have HJ := Lib.hid hjc
        clear hjc
        go_wp2_with (first
          | ((with_reducible refine gate_dst (N := 109) rfl ?_); refine wpList_load_mid rfl 32 _ rfl ga 0 rfl (av status ah akind links size change adata (fl == 1) anum (.slice A j cap)) _ ?hc Try.underlying32 rfl ?hi ?_; (case hc => exact F.out.a.range); (case hi => exact infoAns'))
          | ((with_reducible refine gate_store (t := 32) (p := 110) rfl ?_); refine wpList_store_mid rfl 32 _ _ rfl gm 17 (av status ah akind links size change adata (fl == 1) anum (.slice A j cap)).toArray rfl rfl ?ht ?hi ?h1 ?_; (case ht => exact F.out.m.thereMid 17 13 (by rw [hm_len]; decide)); (case hi => exact infoAns'); (case h1 => exact all_oneCell_toArray (av_one _ _ _ _ _ _ _ _ _ _ _ _)); have Ku20 := Lib.hid (RefA.msgs F.out (av status ah akind links size change adata (fl == 1) anum (.slice A j cap)) 17); change wpList _ _ _ _ _ (World.setCells wr gm 17 (av status ah akind links size change adata (fl == 1) anum (.slice A j cap))); change Hid (RefA w (World.setCells wr gm 17 (av status ah akind links size change adata (fl == 1) anum (.slice A j cap))) _ _ _ _ _ _ _ _ _) at Ku20; generalize World.setCells wr gm 17 (av status ah akind links size change adata (fl == 1) anum (.slice A j cap)) = u20 at Ku20 ⊢; obtain ⟨cs20, h20⟩ : ∃ y, Hid (setL (hm k c x) 17 (av status ah akind links size change adata (fl == 1) anum (.slice A j cap)) = y) := ⟨_, Lib.hid rfl⟩; replace Ku20 := Lib.hid (refA_eq h20.out Ku20.out); have H20 : Hid (cs20.length = 33) := Lib.hid (by rw [← h20.out, setL_length]; exact hm_len k c x); have c0 := Ku20.out.m.cell 0 (by rw [← h20.out, setL_zero]; exact hm_zero k c x)))
        refine (CB.out j _ _ Ku20.out.r).mono ?_
        rintro e u21 ⟨rfl, q⟩
        have Ku21 := Lib.hid (Ku20.out.next q); clear q
        have c30 := Ku21.out.m.cell 30 (List.getElem?_eq_getElem (by rw [H20.out]; decide))
        have f30 := Ku21.out.m.frozen 30
        have Kv := Lib.hid (Ku21.out.msgs [.int .u64 (boot j)] 30)
        go_wp2_with fail
        refine (CG.out j _ _ Kv.out.r).mono ?_
        rintro e u22 ⟨rfl, q⟩
        have Ku22 := Lib.hid (Kv.out.next q); clear q
        go_wp2_with fail
        refine (CN.out j _ _ Ku22.out.r).mono ?_
        rintro e u23 ⟨rfl, q⟩
        have Ku23 := Lib.hid (Ku22.out.next q); clear q Ku22 Kv Ku21 Ku20
        have hmj := hm1.out j
        have okj := hok.out j hj65
        have fwj := hfw.out j hjN hj65 HJ.out
        generalize mm j = m at hmj okj fwj
        have hm1 := Lib.hid hmj
        have hok := Lib.hid okj
        have hcj : m.list.length ≤ cap := by rw [hm1.out]; show (es j).length ≤ cap; rw [hesl.out j]; exact (ownsRow_ents (F.out.own3 (hesl.out j))).2
        generalize r j = r2 at *
        generalize bd j = bd2 at *
        have hfw := Lib.hid fwj
        clear hmj okj fwj
        obtain ⟨cs, hcs⟩ : ∃ cs, cs = m.vs (.slice A m.list.length cap) := ⟨_, rfl⟩
        have Hco : Hid (∀ v ∈ cs, v.oneCell' = true) := Lib.hid (by rw [hcs]; exact m.one _ _ _)
        have Hcl : Hid (cs.length = 33) := Lib.hid (by rw [hcs]; rfl)
        have HE : Hid (∀ w, EntsR w A m.list → Calls Try.prog 10 #[.agg cs.toArray] w fun e w' => e = .returned (.tuple #[.string m.refE.1, .int .i64 m.refE.2]) ∧ Below w.heap.size w w') := Lib.hid (fun w h => by rw [hcs]; exact refEncode_any m A cap hok.out hcj w h)
        have Hk0 : Hid (cs[0]? = some (.int .i64 k)) := Lib.hid (by rw [hcs, hm1.out]; rfl)
        have Hcs0 : Hid (setL (setL cs20 30 [.int .u64 (boot j)]) 31 (stVs (gb j) (gn j)) = cs) := Lib.hid (by rw [hcs, ← h20.out]; exact full_eq _ _ _ _ _ _ _ _ _ _ _ _ _ _ _ _ _ _ _ m hm1.out (hesl.out j))
        have Hcs := Lib.hid hcs
        have Hml : Hid (m.list = es j) := Lib.hid (by rw [hm1.out])
        have NA : Hid (∀ b o, A = some ⟨b, o, none⟩ → b ≠ g2) := Lib.hid (fun b o e => (F.out.nb b (by rw [e]; rfl)).2.1); have NB : Hid (∀ b o, A = some ⟨b, o, none⟩ → w.heap.size ≤ b) := Lib.hid (fun b o e => (F.out.own.lt b (by rw [e]; rfl)).1)
        clear hcs hcj
        cases bd2
        rotate_left
        · skip
          go_wp2_with (first
          | ((with_reducible refine gate_store (t := 34) (p := 129) rfl ?_); refine wpList_store_mid rfl 34 _ _ rfl gm 31 (stVs (gb j) (gn j)).toArray rfl rfl ?ht ?hi ?h1 ?_; (case ht => exact Ku23.out.m.thereMid 31 2 (by rw [setL_length, H20.out]; decide)); (case hi => exact infoStamp); (case h1 => exact all_oneCell_toArray (stVs_one _ _)); have Ku24 := Lib.hid (RefA.msgs Ku23.out (stVs (gb j) (gn j)) 31); change wpList _ _ _ _ _ (World.setCells u23 gm 31 (stVs (gb j) (gn j))); change Hid (RefA w (World.setCells u23 gm 31 (stVs (gb j) (gn j))) _ _ _ _ _ _ _ _ _) at Ku24; generalize World.setCells u23 gm 31 (stVs (gb j) (gn j)) = u24 at Ku24 ⊢; have EA : Hid (EntsR u24 A m.list) := Lib.hid (by rw [Hml.out]; exact (ownsRow_ents (Ku24.out.own3 (hesl.out j))).1); have Iu24 := Lib.hid (refI_eq Hcs0.out Ku24.out.toRefI); clear Ku24; have r0 := Iu24.out.r.cell 0 rfl; have r1 := Iu24.out.r.cell 1 rfl; dsimp only at r0 r1; have c0 := Iu24.out.m.cell 0 Hk0.out)
            | ((with_reducible refine gate_dst (N := 156) rfl ?_); refine Kd.event_run rfl (run_buildM _ _ rfl _) ?_)
            | ((with_reducible refine gate_store (t := 36) (p := 2) rfl ?_); refine wpList_store_mid rfl 36 _ _ rfl g2 0 zcs.toArray rfl rfl ?ht ?hi ?h1 ?_; (case ht => exact Iu24.out.z.there 33 (Nat.le_refl 33)); (case hi => exact infoMsg); (case h1 => exact all_oneCell_toArray zcs_one); have OV := Lib.hid (Iu24.out.over zcs rfl); change wpList _ _ _ _ _ (u24.setCells g2 0 zcs); generalize u24.setCells g2 0 zcs = vz at OV ⊢))
          refine bodyPost_ret (v := .tuple #[.agg zcs.toArray, .int .i64 2200]) (results_cell_tmp Try.results15 (by rfl) (by rfl) (load_msg OV.out.1 zcs_len)) rfl ⟨Msg.zero, none, 0, 2200, rfl, ⟨ents_nil _ _, no_addr _⟩, OV.out.2.1, .inr ⟨rfl, rfl, ?_⟩⟩
          cases hd : decOk s
          · rfl
          · exact absurd (hfw.out hd) (by rintro ⟨h1, _⟩; cases h1)
        rcases orFalse ((r2.size : Int) == 0) with z0 | z0
        rotate_left
        · skip
          go_wp2_with (first
          | ((with_reducible refine gate_store (t := 34) (p := 129) rfl ?_); refine wpList_store_mid rfl 34 _ _ rfl gm 31 (stVs (gb j) (gn j)).toArray rfl rfl ?ht ?hi ?h1 ?_; (case ht => exact Ku23.out.m.thereMid 31 2 (by rw [setL_length, H20.out]; decide)); (case hi => exact infoStamp); (case h1 => exact all_oneCell_toArray (stVs_one _ _)); have Ku24 := Lib.hid (RefA.msgs Ku23.out (stVs (gb j) (gn j)) 31); change wpList _ _ _ _ _ (World.setCells u23 gm 31 (stVs (gb j) (gn j))); change Hid (RefA w (World.setCells u23 gm 31 (stVs (gb j) (gn j))) _ _ _ _ _ _ _ _ _) at Ku24; generalize World.setCells u23 gm 31 (stVs (gb j) (gn j)) = u24 at Ku24 ⊢; have EA : Hid (EntsR u24 A m.list) := Lib.hid (by rw [Hml.out]; exact (ownsRow_ents (Ku24.out.own3 (hesl.out j))).1); have Iu24 := Lib.hid (refI_eq Hcs0.out Ku24.out.toRefI); clear Ku24; have r0 := Iu24.out.r.cell 0 rfl; have r1 := Iu24.out.r.cell 1 rfl; dsimp only at r0 r1; have c0 := Iu24.out.m.cell 0 Hk0.out)
            | ((with_reducible refine gate_dst (N := 156) rfl ?_); refine Kd.event_run rfl (run_buildM _ _ rfl _) ?_)
            | ((with_reducible refine gate_store (t := 36) (p := 2) rfl ?_); refine wpList_store_mid rfl 36 _ _ rfl g2 0 zcs.toArray rfl rfl ?ht ?hi ?h1 ?_; (case ht => exact Iu24.out.z.there 33 (Nat.le_refl 33)); (case hi => exact infoMsg); (case h1 => exact all_oneCell_toArray zcs_one); have OV := Lib.hid (Iu24.out.over zcs rfl); change wpList _ _ _ _ _ (u24.setCells g2 0 zcs); generalize u24.setCells g2 0 zcs = vz at OV ⊢))
          refine bodyPost_ret (v := .tuple #[.agg zcs.toArray, .int .i64 2200]) (results_cell_tmp Try.results15 (by rfl) (by rfl) (load_msg OV.out.1 zcs_len)) rfl ⟨Msg.zero, none, 0, 2200, rfl, ⟨ents_nil _ _, no_addr _⟩, OV.out.2.1, .inr ⟨rfl, rfl, ?_⟩⟩
          cases hd : decOk s
          · rfl
          · exact absurd (hfw.out hd) (by rintro ⟨_, h1, _⟩; simp [h1] at z0)
        go_wp2_with (first
          | ((with_reducible refine gate_store (t := 34) (p := 129) rfl ?_); refine wpList_store_mid rfl 34 _ _ rfl gm 31 (stVs (gb j) (gn j)).toArray rfl rfl ?ht ?hi ?h1 ?_; (case ht => exact Ku23.out.m.thereMid 31 2 (by rw [setL_length, H20.out]; decide)); (case hi => exact infoStamp); (case h1 => exact all_oneCell_toArray (stVs_one _ _)); have Ku24 := Lib.hid (RefA.msgs Ku23.out (stVs (gb j) (gn j)) 31); change wpList _ _ _ _ _ (World.setCells u23 gm 31 (stVs (gb j) (gn j))); change Hid (RefA w (World.setCells u23 gm 31 (stVs (gb j) (gn j))) _ _ _ _ _ _ _ _ _) at Ku24; generalize World.setCells u23 gm 31 (stVs (gb j) (gn j)) = u24 at Ku24 ⊢; have EA : Hid (EntsR u24 A m.list) := Lib.hid (by rw [Hml.out]; exact (ownsRow_ents (Ku24.out.own3 (hesl.out j))).1); have Iu24 := Lib.hid (refI_eq Hcs0.out Ku24.out.toRefI); clear Ku24; have r0 := Iu24.out.r.cell 0 rfl; have r1 := Iu24.out.r.cell 1 rfl; dsimp only at r0 r1; have c0 := Iu24.out.m.cell 0 Hk0.out)
          | ((with_reducible refine gate_dst (N := 144) rfl ?_); refine wpList_load_mid rfl 36 _ rfl gm 0 rfl cs _ ?hc Try.underlying36 rfl ?hi ?_; (case hc => exact Iu24.out.m.range); (case hi => rw [Hcl.out]; exact infoMsg)))
        refine (HE.out _ EA.out).mono ?_
        rintro e ue ⟨rfl, hb⟩
        have Iue := Lib.hid (Iu24.out.below hb)
        have EE := Lib.hid (EA.out.below hb)
        clear hb r0 r1
        generalize hE1 : m.refE.1 = E1 at *
        generalize hE2 : m.refE.2 = E2 at *
        have HE1 := Lib.hid hE1; have HE2 := Lib.hid hE2
        clear hE1 hE2
        rcases orFalse (E2 == 0) with z1 | z1
        rotate_left
        · skip
          go_wp2_with (first
            | ((with_reducible refine gate_dst (N := 156) rfl ?_); refine Kd.event_run rfl (run_buildM _ _ rfl _) ?_)
            | ((with_reducible refine gate_store (t := 36) (p := 2) rfl ?_); refine wpList_store_mid rfl 36 _ _ rfl g2 0 zcs.toArray rfl rfl ?ht ?hi ?h1 ?_; (case ht => exact Iue.out.z.there 33 (Nat.le_refl 33)); (case hi => exact infoMsg); (case h1 => exact all_oneCell_toArray zcs_one); have OV := Lib.hid (Iue.out.over zcs rfl); change wpList _ _ _ _ _ (ue.setCells g2 0 zcs); generalize ue.setCells g2 0 zcs = vz at OV ⊢))
          refine bodyPost_ret (v := .tuple #[.agg zcs.toArray, .int .i64 2200]) (results_cell_tmp Try.results15 (by rfl) (by rfl) (load_msg OV.out.1 zcs_len)) rfl ⟨Msg.zero, none, 0, 2200, rfl, ⟨ents_nil _ _, no_addr _⟩, OV.out.2.1, .inr ⟨rfl, rfl, ?_⟩⟩
          cases hd : decOk s
          · rfl
          · exact absurd (hfw.out hd) (by rintro ⟨_, _, h1⟩; rw [← HE2.out, h1] at z1; cases z1)
        rcases orFalse (E1.toList == s.toList) with z2 | z2
        rotate_left
        · skip
          go_wp2_with (first
            | ((with_reducible refine gate_dst (N := 156) rfl ?_); refine Kd.event_run rfl (run_buildM _ _ rfl _) ?_)
            | ((with_reducible refine gate_store (t := 36) (p := 2) rfl ?_); refine wpList_store_mid rfl 36 _ _ rfl g2 0 zcs.toArray rfl rfl ?ht ?hi ?h1 ?_; (case ht => exact Iue.out.z.there 33 (Nat.le_refl 33)); (case hi => exact infoMsg); (case h1 => exact all_oneCell_toArray zcs_one); have OV := Lib.hid (Iue.out.over zcs rfl); change wpList _ _ _ _ _ (ue.setCells g2 0 zcs); generalize ue.setCells g2 0 zcs = vz at OV ⊢))
          refine bodyPost_ret (v := .tuple #[.agg zcs.toArray, .int .i64 2200]) (results_cell_tmp Try.results15 (by rfl) (by rfl) (load_msg OV.out.1 zcs_len)) rfl ⟨Msg.zero, none, 0, 2200, rfl, ⟨ents_nil _ _, no_addr _⟩, OV.out.2.1, .inr ⟨rfl, rfl, ?_⟩⟩
          cases hd : decOk s
          · rfl
          · exact absurd (hfw.out hd) (by rintro ⟨_, _, h1⟩; rw [← HE1.out, h1] at z2; simp at z2)
        go_wp2_with (first
          | ((with_reducible refine gate_dst (N := 155) rfl ?_); refine wpList_load_mid rfl 36 _ rfl gm 0 rfl cs _ ?hc Try.underlying36 rfl ?hi ?_; (case hc => exact Iue.out.m.range); (case hi => rw [Hcl.out]; exact infoMsg))
          | ((with_reducible refine gate_store (t := 36) (p := 2) rfl ?_); refine wpList_store_mid rfl 36 _ _ rfl g2 0 cs.toArray rfl rfl ?ht ?hi ?h1 ?_; (case ht => exact Iue.out.z.there _ (by rw [List.size_toArray, Hcl.out]; exact Nat.le_refl 33)); (case hi => rw [List.size_toArray, Hcl.out]; exact infoMsg); (case h1 => exact all_oneCell_toArray Hco.out); have OV := Lib.hid (Iue.out.over cs Hcl.out); change wpList _ _ _ _ _ (ue.setCells g2 0 cs); generalize ue.setCells g2 0 cs = vz at OV ⊢))
        refine bodyPost_ret (v := .tuple #[.agg cs.toArray, .int .i64 0]) (results_cell_tmp Try.results15 (by rfl) (by rfl) (load_msg OV.out.1 Hcl.out)) rfl ⟨m, A, cap, 0, by rw [Hcs.out], ⟨OV.out.2.2 A m.list NA.out EE.out, NB.out⟩, OV.out.2.1, .inl ⟨rfl, hok.out, ?_⟩⟩
        have e1 : E1 = s := ba_inj (by simpa using z2)
        have e2 : E2 = 0 := by simpa using z1
        exact Prod.ext (HE1.out.trans e1) (HE2.out.trans e2)
      · skip
        have g1 : (j : Int) < (N : Int) := by omega
        have g2' : (j : Int) ≤ 64 := by omega
        rw [h.2.2] at r1
        have hjc : j < N → 64 < j ∨ (er j).bad = true := fun h2 => .inr h.2.2
        clear h hst
        have HJ := Lib.hid hjc
        clear hjc
        go_wp2_with (first
          | ((with_reducible refine gate_dst (N := 109) rfl ?_); refine wpList_load_mid rfl 32 _ rfl ga 0 rfl (av status ah akind links size change adata (fl == 1) anum (.slice A j cap)) _ ?hc Try.underlying32 rfl ?hi ?_; (case hc => exact F.out.a.range); (case hi => exact infoAns'))
          | ((with_reducible refine gate_store (t := 32) (p := 110) rfl ?_); refine wpList_store_mid rfl 32 _ _ rfl gm 17 (av status ah akind links size change adata (fl == 1) anum (.slice A j cap)).toArray rfl rfl ?ht ?hi ?h1 ?_; (case ht => exact F.out.m.thereMid 17 13 (by rw [hm_len]; decide)); (case hi => exact infoAns'); (case h1 => exact all_oneCell_toArray (av_one _ _ _ _ _ _ _ _ _ _ _ _)); have Ku20 := Lib.hid (RefA.msgs F.out (av status ah akind links size change adata (fl == 1) anum (.slice A j cap)) 17); change wpList _ _ _ _ _ (World.setCells wr gm 17 (av status ah akind links size change adata (fl == 1) anum (.slice A j cap))); change Hid (RefA w (World.setCells wr gm 17 (av status ah akind links size change adata (fl == 1) anum (.slice A j cap))) _ _ _ _ _ _ _ _ _) at Ku20; generalize World.setCells wr gm 17 (av status ah akind links size change adata (fl == 1) anum (.slice A j cap)) = u20 at Ku20 ⊢; obtain ⟨cs20, h20⟩ : ∃ y, Hid (setL (hm k c x) 17 (av status ah akind links size change adata (fl == 1) anum (.slice A j cap)) = y) := ⟨_, Lib.hid rfl⟩; replace Ku20 := Lib.hid (refA_eq h20.out Ku20.out); have H20 : Hid (cs20.length = 33) := Lib.hid (by rw [← h20.out, setL_length]; exact hm_len k c x); have c0 := Ku20.out.m.cell 0 (by rw [← h20.out, setL_zero]; exact hm_zero k c x)))
        refine (CB.out j _ _ Ku20.out.r).mono ?_
        rintro e u21 ⟨rfl, q⟩
        have Ku21 := Lib.hid (Ku20.out.next q); clear q
        have c30 := Ku21.out.m.cell 30 (List.getElem?_eq_getElem (by rw [H20.out]; decide))
        have f30 := Ku21.out.m.frozen 30
        have Kv := Lib.hid (Ku21.out.msgs [.int .u64 (boot j)] 30)
        go_wp2_with fail
        refine (CG.out j _ _ Kv.out.r).mono ?_
        rintro e u22 ⟨rfl, q⟩
        have Ku22 := Lib.hid (Kv.out.next q); clear q
        go_wp2_with fail
        refine (CN.out j _ _ Ku22.out.r).mono ?_
        rintro e u23 ⟨rfl, q⟩
        have Ku23 := Lib.hid (Ku22.out.next q); clear q Ku22 Kv Ku21 Ku20
        have hmj := hm1.out j
        have okj := hok.out j hj65
        have fwj := hfw.out j hjN hj65 HJ.out
        generalize mm j = m at hmj okj fwj
        have hm1 := Lib.hid hmj
        have hok := Lib.hid okj
        have hcj : m.list.length ≤ cap := by rw [hm1.out]; show (es j).length ≤ cap; rw [hesl.out j]; exact (ownsRow_ents (F.out.own3 (hesl.out j))).2
        generalize r j = r2 at *
        generalize bd j = bd2 at *
        have hfw := Lib.hid fwj
        clear hmj okj fwj
        obtain ⟨cs, hcs⟩ : ∃ cs, cs = m.vs (.slice A m.list.length cap) := ⟨_, rfl⟩
        have Hco : Hid (∀ v ∈ cs, v.oneCell' = true) := Lib.hid (by rw [hcs]; exact m.one _ _ _)
        have Hcl : Hid (cs.length = 33) := Lib.hid (by rw [hcs]; rfl)
        have HE : Hid (∀ w, EntsR w A m.list → Calls Try.prog 10 #[.agg cs.toArray] w fun e w' => e = .returned (.tuple #[.string m.refE.1, .int .i64 m.refE.2]) ∧ Below w.heap.size w w') := Lib.hid (fun w h => by rw [hcs]; exact refEncode_any m A cap hok.out hcj w h)
        have Hk0 : Hid (cs[0]? = some (.int .i64 k)) := Lib.hid (by rw [hcs, hm1.out]; rfl)
        have Hcs0 : Hid (setL (setL cs20 30 [.int .u64 (boot j)]) 31 (stVs (gb j) (gn j)) = cs) := Lib.hid (by rw [hcs, ← h20.out]; exact full_eq _ _ _ _ _ _ _ _ _ _ _ _ _ _ _ _ _ _ _ m hm1.out (hesl.out j))
        have Hcs := Lib.hid hcs
        have Hml : Hid (m.list = es j) := Lib.hid (by rw [hm1.out])
        have NA : Hid (∀ b o, A = some ⟨b, o, none⟩ → b ≠ g2) := Lib.hid (fun b o e => (F.out.nb b (by rw [e]; rfl)).2.1); have NB : Hid (∀ b o, A = some ⟨b, o, none⟩ → w.heap.size ≤ b) := Lib.hid (fun b o e => (F.out.own.lt b (by rw [e]; rfl)).1)
        clear hcs hcj
        cases bd2
        rotate_left
        · skip
          go_wp2_with (first
          | ((with_reducible refine gate_store (t := 34) (p := 129) rfl ?_); refine wpList_store_mid rfl 34 _ _ rfl gm 31 (stVs (gb j) (gn j)).toArray rfl rfl ?ht ?hi ?h1 ?_; (case ht => exact Ku23.out.m.thereMid 31 2 (by rw [setL_length, H20.out]; decide)); (case hi => exact infoStamp); (case h1 => exact all_oneCell_toArray (stVs_one _ _)); have Ku24 := Lib.hid (RefA.msgs Ku23.out (stVs (gb j) (gn j)) 31); change wpList _ _ _ _ _ (World.setCells u23 gm 31 (stVs (gb j) (gn j))); change Hid (RefA w (World.setCells u23 gm 31 (stVs (gb j) (gn j))) _ _ _ _ _ _ _ _ _) at Ku24; generalize World.setCells u23 gm 31 (stVs (gb j) (gn j)) = u24 at Ku24 ⊢; have EA : Hid (EntsR u24 A m.list) := Lib.hid (by rw [Hml.out]; exact (ownsRow_ents (Ku24.out.own3 (hesl.out j))).1); have Iu24 := Lib.hid (refI_eq Hcs0.out Ku24.out.toRefI); clear Ku24; have r0 := Iu24.out.r.cell 0 rfl; have r1 := Iu24.out.r.cell 1 rfl; dsimp only at r0 r1; have c0 := Iu24.out.m.cell 0 Hk0.out)
            | ((with_reducible refine gate_dst (N := 156) rfl ?_); refine Kd.event_run rfl (run_buildM _ _ rfl _) ?_)
            | ((with_reducible refine gate_store (t := 36) (p := 2) rfl ?_); refine wpList_store_mid rfl 36 _ _ rfl g2 0 zcs.toArray rfl rfl ?ht ?hi ?h1 ?_; (case ht => exact Iu24.out.z.there 33 (Nat.le_refl 33)); (case hi => exact infoMsg); (case h1 => exact all_oneCell_toArray zcs_one); have OV := Lib.hid (Iu24.out.over zcs rfl); change wpList _ _ _ _ _ (u24.setCells g2 0 zcs); generalize u24.setCells g2 0 zcs = vz at OV ⊢))
          refine bodyPost_ret (v := .tuple #[.agg zcs.toArray, .int .i64 2200]) (results_cell_tmp Try.results15 (by rfl) (by rfl) (load_msg OV.out.1 zcs_len)) rfl ⟨Msg.zero, none, 0, 2200, rfl, ⟨ents_nil _ _, no_addr _⟩, OV.out.2.1, .inr ⟨rfl, rfl, ?_⟩⟩
          cases hd : decOk s
          · rfl
          · exact absurd (hfw.out hd) (by rintro ⟨h1, _⟩; cases h1)
        rcases orFalse ((r2.size : Int) == 0) with z0 | z0
        rotate_left
        · skip
          go_wp2_with (first
          | ((with_reducible refine gate_store (t := 34) (p := 129) rfl ?_); refine wpList_store_mid rfl 34 _ _ rfl gm 31 (stVs (gb j) (gn j)).toArray rfl rfl ?ht ?hi ?h1 ?_; (case ht => exact Ku23.out.m.thereMid 31 2 (by rw [setL_length, H20.out]; decide)); (case hi => exact infoStamp); (case h1 => exact all_oneCell_toArray (stVs_one _ _)); have Ku24 := Lib.hid (RefA.msgs Ku23.out (stVs (gb j) (gn j)) 31); change wpList _ _ _ _ _ (World.setCells u23 gm 31 (stVs (gb j) (gn j))); change Hid (RefA w (World.setCells u23 gm 31 (stVs (gb j) (gn j))) _ _ _ _ _ _ _ _ _) at Ku24; generalize World.setCells u23 gm 31 (stVs (gb j) (gn j)) = u24 at Ku24 ⊢; have EA : Hid (EntsR u24 A m.list) := Lib.hid (by rw [Hml.out]; exact (ownsRow_ents (Ku24.out.own3 (hesl.out j))).1); have Iu24 := Lib.hid (refI_eq Hcs0.out Ku24.out.toRefI); clear Ku24; have r0 := Iu24.out.r.cell 0 rfl; have r1 := Iu24.out.r.cell 1 rfl; dsimp only at r0 r1; have c0 := Iu24.out.m.cell 0 Hk0.out)
            | ((with_reducible refine gate_dst (N := 156) rfl ?_); refine Kd.event_run rfl (run_buildM _ _ rfl _) ?_)
            | ((with_reducible refine gate_store (t := 36) (p := 2) rfl ?_); refine wpList_store_mid rfl 36 _ _ rfl g2 0 zcs.toArray rfl rfl ?ht ?hi ?h1 ?_; (case ht => exact Iu24.out.z.there 33 (Nat.le_refl 33)); (case hi => exact infoMsg); (case h1 => exact all_oneCell_toArray zcs_one); have OV := Lib.hid (Iu24.out.over zcs rfl); change wpList _ _ _ _ _ (u24.setCells g2 0 zcs); generalize u24.setCells g2 0 zcs = vz at OV ⊢))
          refine bodyPost_ret (v := .tuple #[.agg zcs.toArray, .int .i64 2200]) (results_cell_tmp Try.results15 (by rfl) (by rfl) (load_msg OV.out.1 zcs_len)) rfl ⟨Msg.zero, none, 0, 2200, rfl, ⟨ents_nil _ _, no_addr _⟩, OV.out.2.1, .inr ⟨rfl, rfl, ?_⟩⟩
          cases hd : decOk s
          · rfl
          · exact absurd (hfw.out hd) (by rintro ⟨_, h1, _⟩; simp [h1] at z0)
        go_wp2_with (first
          | ((with_reducible refine gate_store (t := 34) (p := 129) rfl ?_); refine wpList_store_mid rfl 34 _ _ rfl gm 31 (stVs (gb j) (gn j)).toArray rfl rfl ?ht ?hi ?h1 ?_; (case ht => exact Ku23.out.m.thereMid 31 2 (by rw [setL_length, H20.out]; decide)); (case hi => exact infoStamp); (case h1 => exact all_oneCell_toArray (stVs_one _ _)); have Ku24 := Lib.hid (RefA.msgs Ku23.out (stVs (gb j) (gn j)) 31); change wpList _ _ _ _ _ (World.setCells u23 gm 31 (stVs (gb j) (gn j))); change Hid (RefA w (World.setCells u23 gm 31 (stVs (gb j) (gn j))) _ _ _ _ _ _ _ _ _) at Ku24; generalize World.setCells u23 gm 31 (stVs (gb j) (gn j)) = u24 at Ku24 ⊢; have EA : Hid (EntsR u24 A m.list) := Lib.hid (by rw [Hml.out]; exact (ownsRow_ents (Ku24.out.own3 (hesl.out j))).1); have Iu24 := Lib.hid (refI_eq Hcs0.out Ku24.out.toRefI); clear Ku24; have r0 := Iu24.out.r.cell 0 rfl; have r1 := Iu24.out.r.cell 1 rfl; dsimp only at r0 r1; have c0 := Iu24.out.m.cell 0 Hk0.out)
          | ((with_reducible refine gate_dst (N := 144) rfl ?_); refine wpList_load_mid rfl 36 _ rfl gm 0 rfl cs _ ?hc Try.underlying36 rfl ?hi ?_; (case hc => exact Iu24.out.m.range); (case hi => rw [Hcl.out]; exact infoMsg)))
        refine (HE.out _ EA.out).mono ?_
        rintro e ue ⟨rfl, hb⟩
        have Iue := Lib.hid (Iu24.out.below hb)
        have EE := Lib.hid (EA.out.below hb)
        clear hb r0 r1
        generalize hE1 : m.refE.1 = E1 at *
        generalize hE2 : m.refE.2 = E2 at *
        have HE1 := Lib.hid hE1; have HE2 := Lib.hid hE2
        clear hE1 hE2
        rcases orFalse (E2 == 0) with z1 | z1
        rotate_left
        · skip
          go_wp2_with (first
            | ((with_reducible refine gate_dst (N := 156) rfl ?_); refine Kd.event_run rfl (run_buildM _ _ rfl _) ?_)
            | ((with_reducible refine gate_store (t := 36) (p := 2) rfl ?_); refine wpList_store_mid rfl 36 _ _ rfl g2 0 zcs.toArray rfl rfl ?ht ?hi ?h1 ?_; (case ht => exact Iue.out.z.there 33 (Nat.le_refl 33)); (case hi => exact infoMsg); (case h1 => exact all_oneCell_toArray zcs_one); have OV := Lib.hid (Iue.out.over zcs rfl); change wpList _ _ _ _ _ (ue.setCells g2 0 zcs); generalize ue.setCells g2 0 zcs = vz at OV ⊢))
          refine bodyPost_ret (v := .tuple #[.agg zcs.toArray, .int .i64 2200]) (results_cell_tmp Try.results15 (by rfl) (by rfl) (load_msg OV.out.1 zcs_len)) rfl ⟨Msg.zero, none, 0, 2200, rfl, ⟨ents_nil _ _, no_addr _⟩, OV.out.2.1, .inr ⟨rfl, rfl, ?_⟩⟩
          cases hd : decOk s
          · rfl
          · exact absurd (hfw.out hd) (by rintro ⟨_, _, h1⟩; rw [← HE2.out, h1] at z1; cases z1)
        rcases orFalse (E1.toList == s.toList) with z2 | z2
        rotate_left
        · skip
          go_wp2_with (first
            | ((with_reducible refine gate_dst (N := 156) rfl ?_); refine Kd.event_run rfl (run_buildM _ _ rfl _) ?_)
            | ((with_reducible refine gate_store (t := 36) (p := 2) rfl ?_); refine wpList_store_mid rfl 36 _ _ rfl g2 0 zcs.toArray rfl rfl ?ht ?hi ?h1 ?_; (case ht => exact Iue.out.z.there 33 (Nat.le_refl 33)); (case hi => exact infoMsg); (case h1 => exact all_oneCell_toArray zcs_one); have OV := Lib.hid (Iue.out.over zcs rfl); change wpList _ _ _ _ _ (ue.setCells g2 0 zcs); generalize ue.setCells g2 0 zcs = vz at OV ⊢))
          refine bodyPost_ret (v := .tuple #[.agg zcs.toArray, .int .i64 2200]) (results_cell_tmp Try.results15 (by rfl) (by rfl) (load_msg OV.out.1 zcs_len)) rfl ⟨Msg.zero, none, 0, 2200, rfl, ⟨ents_nil _ _, no_addr _⟩, OV.out.2.1, .inr ⟨rfl, rfl, ?_⟩⟩
          cases hd : decOk s
          · rfl
          · exact absurd (hfw.out hd) (by rintro ⟨_, _, h1⟩; rw [← HE1.out, h1] at z2; simp at z2)
        go_wp2_with (first
          | ((with_reducible refine gate_dst (N := 155) rfl ?_); refine wpList_load_mid rfl 36 _ rfl gm 0 rfl cs _ ?hc Try.underlying36 rfl ?hi ?_; (case hc => exact Iue.out.m.range); (case hi => rw [Hcl.out]; exact infoMsg))
          | ((with_reducible refine gate_store (t := 36) (p := 2) rfl ?_); refine wpList_store_mid rfl 36 _ _ rfl g2 0 cs.toArray rfl rfl ?ht ?hi ?h1 ?_; (case ht => exact Iue.out.z.there _ (by rw [List.size_toArray, Hcl.out]; exact Nat.le_refl 33)); (case hi => rw [List.size_toArray, Hcl.out]; exact infoMsg); (case h1 => exact all_oneCell_toArray Hco.out); have OV := Lib.hid (Iue.out.over cs Hcl.out); change wpList _ _ _ _ _ (ue.setCells g2 0 cs); generalize ue.setCells g2 0 cs = vz at OV ⊢))
        refine bodyPost_ret (v := .tuple #[.agg cs.toArray, .int .i64 0]) (results_cell_tmp Try.results15 (by rfl) (by rfl) (load_msg OV.out.1 Hcl.out)) rfl ⟨m, A, cap, 0, by rw [Hcs.out], ⟨OV.out.2.2 A m.list NA.out EE.out, NB.out⟩, OV.out.2.1, .inl ⟨rfl, hok.out, ?_⟩⟩
        have e1 : E1 = s := ba_inj (by simpa using z2)
        have e2 : E2 = 0 := by simpa using z1
        exact Prod.ext (HE1.out.trans e1) (HE2.out.trans e2)

end Go.Proofs.Ytibcadfpengacaa

-- RefW
set_option linter.unusedVariables false
set_option linter.unusedSimpArgs false
namespace Go.Proofs.Ytibcadfpengacaa
open Go.RowKit Go.Lib

theorem val_refE {m : Msg} (h : m.Val) {s : ByteArray} (hs : m.layL = s.data.toList) : m.refE = (s, 0) := by
  unfold Msg.refE
  rw [h.short, h.may, if_neg (by decide), if_neg (by decide)]
  have : m.layS = s := by rw [layS_eq, hs]
  rw [this]
/-- The reader behind a message's head. -/
def Rr.a0 (ρ : Rr) : Rr := ((ρ.left 1).left 4).left 8
def Rr.callM (ρ : Rr) : Msg := ⟨(ρ.num 1 : Nat), ((ρ.left 1).num 4 : Nat), (((ρ.left 1).left 4).num 8 : Nat), (ρ.a0.num 1 : Nat), (ρ.a0.left 1).hd, ((ρ.a0.left 1).left 28).hd, (((ρ.a0.left 1).left 28).left 28).textS, (((ρ.a0.left 1).left 28).left 28).textR.textS, ((((ρ.a0.left 1).left 28).left 28).textR.textR.num 8 : Nat), (((((ρ.a0.left 1).left 28).left 28).textR.textR.left 8).num 8 : Nat), (((((ρ.a0.left 1).left 28).left 28).textR.textR.left 8).left 8).textS, 0, Hd.zero, 0, 0, 0, 0, ⟨#[]⟩, false, 0, [], 0, 0, 0⟩
def Rr.callR (ρ : Rr) : Rr := (((((ρ.a0.left 1).left 28).left 28).textR.textR.left 8).left 8).textR
def Rr.backM (ρ : Rr) : Msg := ⟨(ρ.num 1 : Nat), ((ρ.left 1).num 4 : Nat), (((ρ.left 1).left 4).num 8 : Nat), 0, ρ.a0.hd, Hd.zero, ⟨#[]⟩, ⟨#[]⟩, 0, 0, ⟨#[]⟩, 0, Hd.zero, 0, 0, 0, 0, ⟨#[]⟩, false, 0, [], ((ρ.a0.left 28).num 8 : Nat), (((ρ.a0.left 28).left 8).num 8 : Nat), ((((ρ.a0.left 28).left 8).left 8).num 8 : Nat)⟩
def Rr.backR (ρ : Rr) : Rr := (((ρ.a0.left 28).left 8).left 8).left 8

set_option maxRecDepth 100000 in
theorem ref_lay_call (m : Msg) (hv : m.Val) (h1 : m.kind = 1) : (mr m.layL).callM = m ∧ (mr m.layL).callR = mr [] := by
  obtain ⟨hk, hl2, hm⟩ := hv
  unfold Msg.long at hl2
  simp only [Bool.or_eq_false_iff, decide_eq_false_iff_not, List.any_eq_false, decide_eq_true_eq] at hl2
  obtain ⟨⟨⟨⟨⟨l1, l2⟩, l3⟩, l4⟩, l5⟩, l6⟩ := hl2
  have n4 : ∀ x : Int, U32 x → ∀ t, (mr (leB x.toNat 4 ++ t)).num 4 = x.toNat := fun x h t => rnum_mk _ 4 (by omega) (by omega) (u32_lt h) t
  have n8 : ∀ x : Int, U64 x → ∀ t, (mr (leB x.toNat 8 ++ t)).num 8 = x.toNat := fun x h t => rnum_mk _ 8 (by omega) (by omega) (u64_lt h) t
  have n1 : ∀ x : Int, smallB x = true → ∀ t, (mr (one1 x ++ t)).num 1 = x.toNat := fun x h t => by
    obtain ⟨a, b, c⟩ := smallB_lt h
    unfold one1
    rw [c]
    exact rnum_mk _ 1 (by omega) (by omega) b t
  have q1 : ∀ (x : Int) t, (mr (one1 x ++ t)).left 1 = mr t := fun x t => rleftn_mk _ _ _
  rw [mayB_call m h1] at hm
  simp only [Bool.and_eq_true, beq_iff_eq] at hm
  obtain ⟨⟨⟨s1, z1⟩, z2⟩, z3⟩ := hm
  obtain ⟨a1, a2, a3, a4, a5, a6, a7, a8, a9, a10⟩ := noAns_zero z1
  have z3' : m.gb = 0 ∧ m.gn = 0 := by unfold stampEq at z3; simpa using z3
  have hlay : m.layL = one1 m.kind ++ (leB m.client.toNat 4 ++ (leB m.xid.toNat 8 ++ (one1 m.op ++ (m.h.lay ++ (m.h2.lay ++ (txt m.name ++ (txt m.name2 ++ (leB m.off.toNat 8 ++ (leB m.num.toNat 8 ++ (txt m.data ++ [])))))))))) := by
    rw [layL_call m h1]
    unfold Msg.headL
    simp only [List.append_assoc, List.append_nil]
  have hk1 : smallB m.kind = true := by rw [h1]; rfl
  have d1 : ∀ t, (mr (txt m.name ++ t)).textS = m.name := fun t => (rtext_mk m.name (by omega) t).1
  have d2 : ∀ t, (mr (txt m.name ++ t)).textR = mr t := fun t => (rtext_mk m.name (by omega) t).2
  have d3 : ∀ t, (mr (txt m.name2 ++ t)).textS = m.name2 := fun t => (rtext_mk m.name2 (by omega) t).1
  have d4 : ∀ t, (mr (txt m.name2 ++ t)).textR = mr t := fun t => (rtext_mk m.name2 (by omega) t).2
  have d5 : ∀ t, (mr (txt m.data ++ t)).textS = m.data := fun t => (rtext_mk m.data (by omega) t).1
  have d6 : ∀ t, (mr (txt m.data ++ t)).textR = mr t := fun t => (rtext_mk m.data (by omega) t).2
  constructor
  · unfold Rr.callM Rr.a0
    rw [hlay]
    simp only [n1 _ hk1, q1, n4 _ hk.client, rleftn_mk, n8 _ hk.xid, n1 _ s1, rlefth_mk, rhd_mk _ hk.h, rhd_mk _ hk.h2, d1, d2, d3, d4, d5, d6, n8 _ hk.off, n8 _ hk.num]
    have s1' : 0 ≤ m.op := (show 0 ≤ m.op ∧ m.op ≤ 255 from of_decide_eq_true s1).1
    rw [nat_toNat (show 0 ≤ m.kind by omega), nat_toNat hk.client.1, nat_toNat hk.xid.1, nat_toNat s1', nat_toNat hk.off.1, nat_toNat hk.num.1]
    obtain ⟨⟩ := m
    simp only at a1 a2 a3 a4 a5 a6 a7 a8 a9 a10 z2 z3'
    obtain ⟨z5, z4⟩ := z3'
    subst a1 a2 a3 a4 a5 a6 a7 a8 a9 a10 z2 z5 z4
    rfl
  · unfold Rr.callR Rr.a0
    rw [hlay]
    simp only [q1, rleftn_mk, rlefth_mk, d2, d4, d6]

set_option maxRecDepth 100000 in
theorem ref_lay_back (m : Msg) (hv : m.Val) (h1 : ¬ m.kind = 1) (h2 : ¬ m.kind = 2) (h3 : m.kind = 3 ∨ m.kind = 4) : (mr m.layL).backM = m ∧ (mr m.layL).backR = mr [] := by
  obtain ⟨hk, hl2, hm⟩ := hv
  unfold Msg.long at hl2
  simp only [Bool.or_eq_false_iff, decide_eq_false_iff_not, List.any_eq_false, decide_eq_true_eq] at hl2
  obtain ⟨⟨⟨⟨⟨l1, l2⟩, l3⟩, l4⟩, l5⟩, l6⟩ := hl2
  have n4 : ∀ x : Int, U32 x → ∀ t, (mr (leB x.toNat 4 ++ t)).num 4 = x.toNat := fun x h t => rnum_mk _ 4 (by omega) (by omega) (u32_lt h) t
  have n8 : ∀ x : Int, U64 x → ∀ t, (mr (leB x.toNat 8 ++ t)).num 8 = x.toNat := fun x h t => rnum_mk _ 8 (by omega) (by omega) (u64_lt h) t
  have n1 : ∀ x : Int, smallB x = true → ∀ t, (mr (one1 x ++ t)).num 1 = x.toNat := fun x h t => by
    obtain ⟨a, b, c⟩ := smallB_lt h
    unfold one1
    rw [c]
    exact rnum_mk _ 1 (by omega) (by omega) b t
  have q1 : ∀ (x : Int) t, (mr (one1 x ++ t)).left 1 = mr t := fun x t => rleftn_mk _ _ _
  rw [mayB_back m h1 h2 h3] at hm
  simp only [Bool.and_eq_true] at hm
  obtain ⟨z0, z1⟩ := hm
  obtain ⟨a1, a2, a3, a4, a5, a6, a7, a8, a9, a10⟩ := noAns_zero z1
  obtain ⟨b1, b2, b3, b4, b5, b6, b7⟩ := ask_zero2 z0
  have hlay : m.layL = one1 m.kind ++ (leB m.client.toNat 4 ++ (leB m.xid.toNat 8 ++ (m.h.lay ++ (leB m.boot.toNat 8 ++ (leB m.gb.toNat 8 ++ (leB m.gn.toNat 8 ++ [])))))) := by
    rw [layL_back m h1 h2]
    unfold Msg.headL tailL
    simp only [List.append_assoc, List.append_nil]
  have hk1 : smallB m.kind = true := by rcases h3 with h | h <;> (rw [h]; rfl)
  constructor
  · unfold Rr.backM Rr.a0
    rw [hlay]
    simp only [n1 _ hk1, q1, n4 _ hk.client, rleftn_mk, n8 _ hk.xid, rlefth_mk, rhd_mk _ hk.h, n8 _ hk.boot, n8 _ hk.gb, n8 _ hk.gn]
    rw [nat_toNat (show 0 ≤ m.kind by omega), nat_toNat hk.client.1, nat_toNat hk.xid.1, nat_toNat hk.boot.1, nat_toNat hk.gb.1, nat_toNat hk.gn.1]
    obtain ⟨⟩ := m
    simp only at a1 a2 a3 a4 a5 a6 a7 a8 a9 a10 b1 b2 b3 b4 b5 b6 b7
    subst a1 a2 a3 a4 a5 a6 a7 a8 a9 a10 b1 b2 b3 b4 b5 b6 b7
    rfl
  · unfold Rr.backR Rr.a0
    rw [hlay]
    simp only [q1, rleftn_mk, rlefth_mk]

/-- The reader behind a reply's list's length; the reply of which j entries are read. -/
def Rr.b0 (ρ : Rr) : Rr := (((((ρ.a0.left 1).left 28).left 1).left 4).left 8).left 8
def Rr.e0 (ρ : Rr) : Rr := (((ρ.b0.textR).left 1).left 8).left 4
def Rr.repM (ρ : Rr) (j : Nat) : Msg := ⟨(ρ.num 1 : Nat), ((ρ.left 1).num 4 : Nat), (((ρ.left 1).left 4).num 8 : Nat), 0, Hd.zero, Hd.zero, ⟨#[]⟩, ⟨#[]⟩, 0, 0, ⟨#[]⟩, (ρ.a0.num 1 : Nat), (ρ.a0.left 1).hd, (((ρ.a0.left 1).left 28).num 1 : Nat), ((((ρ.a0.left 1).left 28).left 1).num 4 : Nat), (((((ρ.a0.left 1).left 28).left 1).left 4).num 8 : Nat), ((((((ρ.a0.left 1).left 28).left 1).left 4).left 8).num 8 : Nat), ρ.b0.textS, (((ρ.b0.textR.num 1 : Nat) : Int) == 1), ((ρ.b0.textR.left 1).num 8 : Nat), (ρ.e0.ents j).1, ((ρ.e0.ents j).2.num 8 : Nat), (((ρ.e0.ents j).2.left 8).num 8 : Nat), ((((ρ.e0.ents j).2.left 8).left 8).num 8 : Nat)⟩
def Rr.repR (ρ : Rr) (j : Nat) : Rr := (((ρ.e0.ents j).2.left 8).left 8).left 8
def Rr.repN (ρ : Rr) : Nat := ((ρ.b0.textR.left 1).left 8).num 4

set_option maxRecDepth 100000 in
theorem ref_lay_reply (m : Msg) (hv : m.Val) (h1 : ¬ m.kind = 1) (h2 : m.kind = 2) : (mr m.layL).repN = m.list.length ∧ (mr m.layL).repM m.list.length = m ∧ (mr m.layL).repR m.list.length = mr [] := by
  obtain ⟨hk, hl2, hm⟩ := hv
  unfold Msg.long at hl2
  simp only [Bool.or_eq_false_iff, decide_eq_false_iff_not, List.any_eq_false, decide_eq_true_eq] at hl2
  obtain ⟨⟨⟨⟨⟨l1, l2⟩, l3⟩, l4⟩, l5⟩, l6⟩ := hl2
  have n4 : ∀ x : Int, U32 x → ∀ t, (mr (leB x.toNat 4 ++ t)).num 4 = x.toNat := fun x h t => rnum_mk _ 4 (by omega) (by omega) (u32_lt h) t
  have n8 : ∀ x : Int, U64 x → ∀ t, (mr (leB x.toNat 8 ++ t)).num 8 = x.toNat := fun x h t => rnum_mk _ 8 (by omega) (by omega) (u64_lt h) t
  have n1 : ∀ x : Int, smallB x = true → ∀ t, (mr (one1 x ++ t)).num 1 = x.toNat := fun x h t => by
    obtain ⟨a, b, c⟩ := smallB_lt h
    unfold one1
    rw [c]
    exact rnum_mk _ 1 (by omega) (by omega) b t
  have q1 : ∀ (x : Int) t, (mr (one1 x ++ t)).left 1 = mr t := fun x t => rleftn_mk _ _ _
  rw [mayB_reply m h2] at hm
  simp only [Bool.and_eq_true] at hm
  obtain ⟨⟨z1, s1⟩, s2⟩ := hm
  obtain ⟨a1, a2, a3, a4, a5, a6, a7, a8⟩ := ask_zero z1
  have hes : ∀ e ∈ m.list, e.name.size ≤ 4096 ∧ U64 e.ino ∧ U64 e.cookie := fun e he => ⟨by have := l5 e he; omega, (hk.list e he).2.1, (hk.list e he).2.2⟩
  have hll : m.list.length < 256 ^ 4 := by have : (256 : Nat) ^ 4 = 4294967296 := by decide
                                           omega
  have he1 : m.eof.toNat < 256 ^ 1 := by cases m.eof <;> decide
  have hlay : m.layL = one1 m.kind ++ (leB m.client.toNat 4 ++ (leB m.xid.toNat 8 ++ (one1 m.status ++ (m.ah.lay ++ (one1 m.akind ++ (leB m.links.toNat 4 ++ (leB m.size.toNat 8 ++ (leB m.change.toNat 8 ++ (txt m.adata ++ (leB m.eof.toNat 1 ++ (leB m.anum.toNat 8 ++ (leB m.list.length 4 ++ (m.list.flatMap entL ++ (leB m.boot.toNat 8 ++ (leB m.gb.toNat 8 ++ (leB m.gn.toNat 8 ++ [])))))))))))))))) := by
    rw [layL_reply m h2]
    unfold Msg.headL tailL
    simp only [List.append_assoc, List.append_nil]
  have hk1 : smallB m.kind = true := by rw [h2]; rfl
  have d1 : ∀ t, (mr (txt m.adata ++ t)).textS = m.adata := fun t => (rtext_mk m.adata (by omega) t).1
  have d2 : ∀ t, (mr (txt m.adata ++ t)).textR = mr t := fun t => (rtext_mk m.adata (by omega) t).2
  have ne : ∀ t, (mr (leB m.eof.toNat 1 ++ t)).num 1 = m.eof.toNat := fun t => rnum_mk _ 1 (by omega) (by omega) he1 t
  have nl : ∀ t, (mr (leB m.list.length 4 ++ t)).num 4 = m.list.length := fun t => rnum_mk _ 4 (by omega) (by omega) hll t
  have ee := rents_mk m.list hes (leB m.boot.toNat 8 ++ (leB m.gb.toNat 8 ++ (leB m.gn.toNat 8 ++ []))) m.list.length (Nat.le_refl _)
  rw [List.take_length, List.drop_length, List.flatMap_nil, List.nil_append] at ee
  have hb : (mr m.layL).b0.textR = mr (leB m.eof.toNat 1 ++ (leB m.anum.toNat 8 ++ (leB m.list.length 4 ++ (m.list.flatMap entL ++ (leB m.boot.toNat 8 ++ (leB m.gb.toNat 8 ++ (leB m.gn.toNat 8 ++ []))))))) := by
    rw [hlay]
    unfold Rr.b0 Rr.a0
    simp only [q1, rleftn_mk, rlefth_mk, d2]
  have he0 : (mr m.layL).e0 = mr (m.list.flatMap entL ++ (leB m.boot.toNat 8 ++ (leB m.gb.toNat 8 ++ (leB m.gn.toNat 8 ++ [])))) := by
    unfold Rr.e0
    rw [hb]
    simp only [rleftn_mk]
  refine ⟨?_, ?_, ?_⟩
  · unfold Rr.repN
    rw [hb]
    simp only [rleftn_mk, nl]
  · unfold Rr.repM
    rw [he0, ee, hb]
    dsimp only
    rw [hlay]
    unfold Rr.b0 Rr.a0
    simp only [n1 _ hk1, q1, n4 _ hk.client, rleftn_mk, n8 _ hk.xid, n1 _ s1, n1 _ s2, rlefth_mk, rhd_mk _ hk.ah, d1, n4 _ hk.links, n8 _ hk.size, n8 _ hk.change, ne, n8 _ hk.anum, n8 _ hk.boot, n8 _ hk.gb, n8 _ hk.gn]
    have s1' : 0 ≤ m.status := (show 0 ≤ m.status ∧ m.status ≤ 255 from of_decide_eq_true s1).1
    have s2' : 0 ≤ m.akind := (show 0 ≤ m.akind ∧ m.akind ≤ 255 from of_decide_eq_true s2).1
    rw [nat_toNat (show 0 ≤ m.kind by omega), nat_toNat hk.client.1, nat_toNat hk.xid.1, nat_toNat s1', nat_toNat s2', nat_toNat hk.links.1, nat_toNat hk.size.1, nat_toNat hk.change.1, nat_toNat hk.anum.1, nat_toNat hk.boot.1, nat_toNat hk.gb.1, nat_toNat hk.gn.1]
    obtain ⟨⟩ := m
    rename_i eof _ _ _ _ _
    simp only at a1 a2 a3 a4 a5 a6 a7 a8
    subst a1 a2 a3 a4 a5 a6 a7 a8
    cases eof <;> rfl
  · unfold Rr.repR
    rw [he0, ee]
    simp only [rleftn_mk]

end Go.Proofs.Ytibcadfpengacaa

-- RefX
set_option linter.unusedVariables false
set_option linter.unusedSimpArgs false
namespace Go.Proofs.Ytibcadfpengacaa
open Go.RowKit Go.Lib

theorem rr_num_lt (ρ : Rr) (n : Nat) (h1 : 1 ≤ n) (h8 : n ≤ 8) : ρ.num n < 256 ^ n := by
  unfold Rr.num
  have h := (ofS_lay (ρ.took n).data.toList n h1 h8 (by rw [Array.length_toList]; exact Rr.took_size ρ n)).2
  exact h
theorem numC (ρ : Rr) (n : Nat) (h1 : 1 ≤ n) (h8 : n ≤ 8) (hs : ρ.s.size ≤ 281474976710656) : NumC ρ (ρ.left n) n (ρ.num n : Nat) := fun R w h => num_rr R ρ n h1 h8 hs w h
theorem hdC (ρ : Rr) (hs : ρ.s.size ≤ 281474976710656) : HdC ρ (ρ.left 28) ρ.hd := fun R w h => handle_rr R ρ hs w h
theorem txtC (ρ : Rr) (hs : ρ.s.size ≤ 281474976710656) : TxtC ρ ρ.textR ρ.textS := fun R w h => text_rr R ρ hs w h
theorem textR_size' (ρ : Rr) : ρ.textR.s.size ≤ ρ.s.size := by
  unfold Rr.textR
  have h1 := Rr.left_size ρ 4
  have h2 := Rr.left_size (ρ.left 4) (ρ.num 4)
  have h3 := Rr.left_size ((ρ.left 4).left (ρ.num 4)) (padN (ρ.num 4))
  split
  · exact h1
  · omega

theorem Rr.hd_ok (ρ : Rr) : ρ.hd.Ok := by
  have b := Rr.took_size ρ 28
  unfold Rr.hd
  generalize ρ.took 28 = t at *
  have hl : t.data.toList.length = 28 := by rw [size_L, b]
  have e1 := (ofS_lay ((t.data.toList.drop 0).take (4 - 0)) 4 (by omega) (by omega) (by rw [List.length_take, List.length_drop]; omega)).2
  have e2 := (ofS_lay ((t.data.toList.drop 4).take (12 - 4)) 8 (by omega) (by omega) (by rw [List.length_take, List.length_drop]; omega)).2
  have e3 := (ofS_lay ((t.data.toList.drop 12).take (20 - 12)) 8 (by omega) (by omega) (by rw [List.length_take, List.length_drop]; omega)).2
  have e4 := (ofS_lay ((t.data.toList.drop 20).take (28 - 20)) 8 (by omega) (by omega) (by rw [List.length_take, List.length_drop]; omega)).2
  have f1 : (256 : Nat) ^ 4 = 4294967296 := by decide
  have f2 : (256 : Nat) ^ 8 = 18446744073709551616 := by decide
  have hd : decH t = ⟨ofS (t.extract 0 4), ofS (t.extract 4 12), ofS (t.extract 12 20), ofS (t.extract 20 28)⟩ := by
    unfold decH
    rw [if_pos b]
  rw [hd]
  simp only [extract_eq] at *
  refine ⟨Int.natCast_nonneg _, ?_, Int.natCast_nonneg _, ?_, Int.natCast_nonneg _, ?_, Int.natCast_nonneg _, ?_⟩
  · show ((ofS _ : Nat) : Int) < _
    omega
  · show ((ofS _ : Nat) : Int) < _
    omega
  · show ((ofS _ : Nat) : Int) < _
    omega
  · show ((ofS _ : Nat) : Int) < _
    omega
theorem Rr.textS_size (ρ : Rr) : ρ.textS.size ≤ 4096 := by
  unfold Rr.textS
  split
  · show 0 ≤ _; omega
  · rw [Rr.took_size]; omega
theorem Rr.u64 (ρ : Rr) : U64 ((ρ.num 8 : Nat) : Int) := u64_nat (rr_num_lt ρ 8 (by omega) (by omega))
theorem Rr.u32 (ρ : Rr) : U32 ((ρ.num 4 : Nat) : Int) := u32_nat (rr_num_lt ρ 4 (by omega) (by omega))
theorem Rr.i64 (ρ : Rr) : I64 ((ρ.num 1 : Nat) : Int) := i64_nat (rr_num_lt ρ 1 (by omega) (by omega))
theorem Rr.siz (ρ : Rr) : Siz ρ.textS := siz_small (Rr.textS_size ρ)
theorem Rr.ents_ok (ρ : Rr) : ∀ k, ∀ e ∈ (ρ.ents k).1, Siz e.name ∧ U64 e.ino ∧ U64 e.cookie
  | 0 => fun e h => by simp [Rr.ents] at h
  | k + 1 => fun e h => by
    rw [Rr.ents, List.mem_append] at h
    rcases h with h | h
    · exact Rr.ents_ok ρ k e h
    · have : e = (ρ.ents k).2.entV := by simpa using h
      subst this
      exact ⟨Rr.siz _, Rr.u64 _, Rr.u64 _⟩
theorem Rr.entR_size (ρ : Rr) : ρ.entR.s.size ≤ ρ.s.size := Nat.le_trans (Rr.left_size _ 8) (Nat.le_trans (Rr.left_size _ 8) (textR_size' ρ))
section
attribute [local irreducible] Rr.left Rr.num Rr.hd Rr.textS Rr.textR Rr.took Rr.entR Rr.entV
theorem Rr.ents_size (ρ : Rr) : ∀ k, (ρ.ents k).2.s.size ≤ ρ.s.size
  | 0 => Nat.le_refl _
  | k + 1 => by
    have h : (ρ.ents (k + 1)).2 = (ρ.ents k).2.entR := rfl
    rw [h]
    exact Nat.le_trans (Rr.entR_size _) (Rr.ents_size ρ k)
theorem no_ents : ∀ e ∈ ([] : List Ent), Siz e.name ∧ U64 e.ino ∧ U64 e.cookie := fun e h => by cases h
theorem Rr.callM_ok (ρ : Rr) : ρ.callM.Ok where
  kind := Rr.i64 _
  client := Rr.u32 _
  xid := Rr.u64 _
  op := Rr.i64 _
  h := Rr.hd_ok _
  h2 := Rr.hd_ok _
  name := Rr.siz _
  name2 := Rr.siz _
  off := Rr.u64 _
  num := Rr.u64 _
  data := Rr.siz _
  status := i80
  ah := hz_ok
  akind := i80
  links := u40
  size := u80
  change := u80
  adata := sz0
  anum := u80
  list := no_ents
  len := Nat.zero_le _
  boot := u80
  gb := u80
  gn := u80
theorem Rr.backM_ok (ρ : Rr) : ρ.backM.Ok where
  kind := Rr.i64 _
  client := Rr.u32 _
  xid := Rr.u64 _
  op := i80
  h := Rr.hd_ok _
  h2 := hz_ok
  name := sz0
  name2 := sz0
  off := u80
  num := u80
  data := sz0
  status := i80
  ah := hz_ok
  akind := i80
  links := u40
  size := u80
  change := u80
  adata := sz0
  anum := u80
  list := no_ents
  len := Nat.zero_le _
  boot := Rr.u64 _
  gb := Rr.u64 _
  gn := Rr.u64 _
theorem Rr.repM_ok (ρ : Rr) (j : Nat) (hj : j ≤ 65) : (ρ.repM j).Ok where
  kind := Rr.i64 _
  client := Rr.u32 _
  xid := Rr.u64 _
  op := i80
  h := hz_ok
  h2 := hz_ok
  name := sz0
  name2 := sz0
  off := u80
  num := u80
  data := sz0
  status := Rr.i64 _
  ah := Rr.hd_ok _
  akind := Rr.i64 _
  links := Rr.u32 _
  size := Rr.u64 _
  change := Rr.u64 _
  adata := Rr.siz _
  anum := Rr.u64 _
  list := Rr.ents_ok _ j
  len := by
    show (ρ.e0.ents j).1.length ≤ _
    rw [Rr.ents_length]
    omega
  boot := Rr.u64 _
  gb := Rr.u64 _
  gn := Rr.u64 _
end

end Go.Proofs.Ytibcadfpengacaa

-- RefY
set_option linter.unusedVariables false
set_option linter.unusedSimpArgs false
namespace Go.Proofs.Ytibcadfpengacaa
open Go.RowKit Go.Lib

theorem mr_self (s : ByteArray) : mr s.data.toList = ⟨s, false⟩ := by
  unfold mr
  rw [Array.toArray_toList]
/-- A message's kind is what the reader reads first. -/
theorem kind_num (m : Msg) (hv : m.Val) : (((mr m.layL).num 1 : Nat) : Int) = m.kind ∧ (m.kind = 1 ∨ m.kind = 2 ∨ m.kind = 3 ∨ m.kind = 4) := by
  by_cases h1 : m.kind = 1
  · exact ⟨congrArg Msg.kind (ref_lay_call m hv h1).1, .inl h1⟩
  by_cases h2 : m.kind = 2
  · exact ⟨congrArg Msg.kind (ref_lay_reply m hv h1 h2).2.1, .inr (.inl h2)⟩
  by_cases h3 : m.kind = 3 ∨ m.kind = 4
  · exact ⟨congrArg Msg.kind (ref_lay_back m hv h1 h2 h3).1, .inr (.inr h3)⟩
  · have h := hv.may
    unfold Msg.mayB at h
    rw [if_neg h1, if_neg h2, if_neg h3] at h
    cases h
/-- A text that is a message: its message, and what the reader reads first. -/
theorem fw (s : ByteArray) (h : decOk s = true) : ∃ m : Msg, m.Val ∧ mr m.layL = ⟨s, false⟩ ∧ m.refE = (s, 0) ∧ ((((⟨s, false⟩ : Rr).num 1 : Nat) : Int) = m.kind) ∧ (m.kind = 1 ∨ m.kind = 2 ∨ m.kind = 3 ∨ m.kind = 4) := by
  obtain ⟨h1, h2⟩ := inv_dec s h
  have hm : mr (rdM ⟨0, s⟩).layL = ⟨s, false⟩ := by rw [h1]; exact mr_self s
  obtain ⟨h3, h4⟩ := kind_num _ h2
  rw [hm] at h3
  exact ⟨_, h2, hm, val_refE h2 h1, h3, h4⟩
theorem Rr.left_bad (ρ : Rr) (n : Nat) (h : ρ.bad = true) : (ρ.left n).bad = true := by
  unfold Rr.left
  split
  · rfl
  · exact h
theorem Rr.textR_bad (ρ : Rr) (h : ρ.bad = true) : ρ.textR.bad = true := by
  unfold Rr.textR
  split
  · rfl
  · exact Rr.left_bad _ _ (Rr.left_bad _ _ (Rr.left_bad _ _ h))
theorem Rr.entR_bad (ρ : Rr) (h : ρ.bad = true) : ρ.entR.bad = true := Rr.left_bad _ _ (Rr.left_bad _ _ (Rr.textR_bad _ h))
section
attribute [local irreducible] Rr.left Rr.num Rr.hd Rr.textS Rr.textR Rr.took Rr.entR Rr.entV
theorem Rr.ents_bad (ρ : Rr) (i : Nat) (h : (ρ.ents i).2.bad = true) : ∀ d, (ρ.ents (i + d)).2.bad = true
  | 0 => h
  | d + 1 => by
    have e : (ρ.ents (i + (d + 1))).2 = (ρ.ents (i + d)).2.entR := rfl
    rw [e]
    exact Rr.entR_bad _ (Rr.ents_bad ρ i h d)
end

theorem Rr.mk_bad (ρ : Rr) (h : ρ.bad = true) : ρ = ⟨ρ.s, true⟩ := by
  cases ρ
  simp only at h
  subst h
  rfl
theorem fw_call (s : ByteArray) (hk : (⟨s, false⟩ : Rr).num 1 = 1) (h : decOk s = true) : (⟨s, false⟩ : Rr).callR.bad = false ∧ (⟨s, false⟩ : Rr).callR.s.size = 0 ∧ (⟨s, false⟩ : Rr).callM.refE = (s, 0) := by
  obtain ⟨m, hv, hm, he, hn, _⟩ := fw s h
  rw [hk] at hn
  obtain ⟨a, b⟩ := ref_lay_call m hv hn.symm
  rw [hm] at a b
  rw [a, b]
  exact ⟨rfl, rfl, he⟩
theorem fw_back (s : ByteArray) (hk : (⟨s, false⟩ : Rr).num 1 = 3 ∨ (⟨s, false⟩ : Rr).num 1 = 4) (h : decOk s = true) : (⟨s, false⟩ : Rr).backR.bad = false ∧ (⟨s, false⟩ : Rr).backR.s.size = 0 ∧ (⟨s, false⟩ : Rr).backM.refE = (s, 0) := by
  obtain ⟨m, hv, hm, he, hn, _⟩ := fw s h
  obtain ⟨a, b⟩ := ref_lay_back m hv (by omega) (by omega) (by omega)
  rw [hm] at a b
  rw [a, b]
  exact ⟨rfl, rfl, he⟩
theorem fw_reply (s : ByteArray) (hk : (⟨s, false⟩ : Rr).num 1 = 2) (j : Nat) (hj : j ≤ (⟨s, false⟩ : Rr).repN) (hw : j < (⟨s, false⟩ : Rr).repN → 64 < j ∨ ((⟨s, false⟩ : Rr).e0.ents j).2.bad = true) (h : decOk s = true) :
    ((⟨s, false⟩ : Rr).repR j).bad = false ∧ ((⟨s, false⟩ : Rr).repR j).s.size = 0 ∧ ((⟨s, false⟩ : Rr).repM j).refE = (s, 0) := by
  obtain ⟨m, hv, hm, he, hn, _⟩ := fw s h
  obtain ⟨a, b, c⟩ := ref_lay_reply m hv (by omega) (by omega)
  have hl := hv.short
  unfold Msg.long at hl
  simp only [Bool.or_eq_false_iff, decide_eq_false_iff_not] at hl
  have hl6 := hl.2
  rw [hm] at a b c
  have hjN : j = m.list.length := by
    by_cases e : j = m.list.length
    · exact e
    · exfalso
      rcases hw (by omega) with h | h
      · omega
      · have hb := Rr.ents_bad _ j h (m.list.length - j)
        rw [show j + (m.list.length - j) = m.list.length by omega] at hb
        have hb2 : ((⟨s, false⟩ : Rr).repR m.list.length).bad = true := Rr.left_bad _ _ (Rr.left_bad _ _ (Rr.left_bad _ _ hb))
        rw [c] at hb2
        cases hb2
  subst hjN
  rw [b, c]
  exact ⟨rfl, rfl, he⟩
theorem no_other (s : ByteArray) (h1 : ¬ (⟨s, false⟩ : Rr).num 1 = 1) (h2 : ¬ (⟨s, false⟩ : Rr).num 1 = 2) (h3 : ¬ (⟨s, false⟩ : Rr).num 1 = 3) (h4 : ¬ (⟨s, false⟩ : Rr).num 1 = 4) : decOk s = false := by
  cases h : decOk s with
  | false => rfl
  | true =>
    obtain ⟨m, _, _, _, hn, hk⟩ := fw s h
    omega

theorem Rr.leS (ρ : Rr) (n : Nat) (h : ρ.s.size ≤ 281474976710656) : (ρ.left n).s.size ≤ 281474976710656 := Nat.le_trans (Rr.left_size ρ n) h
theorem Rr.teS (ρ : Rr) (h : ρ.s.size ≤ 281474976710656) : ρ.textR.s.size ≤ 281474976710656 := Nat.le_trans (textR_size' ρ) h
theorem Rr.enS (ρ : Rr) (k : Nat) (h : ρ.s.size ≤ 281474976710656) : (ρ.ents k).2.s.size ≤ 281474976710656 := Nat.le_trans (Rr.ents_size ρ k) h
theorem b255 (ρ : Rr) : (0 : Int) ≤ (ρ.num 1 : Nat) ∧ ((ρ.num 1 : Nat) : Int) ≤ 255 := by
  have := rr_num_lt ρ 1 (by omega) (by omega)
  have e : (256 : Nat) ^ 1 = 256 := by decide
  omega
theorem b32 (ρ : Rr) : (0 : Int) ≤ (ρ.num 4 : Nat) ∧ ((ρ.num 4 : Nat) : Int) ≤ 4294967295 := by
  have := rr_num_lt ρ 4 (by omega) (by omega)
  have e : (256 : Nat) ^ 4 = 4294967296 := by decide
  omega
theorem b32n (ρ : Rr) : ρ.num 4 ≤ 4294967295 := by
  have := (b32 ρ).2
  omega
theorem keq {k : Nat} {a : Nat} (h : k = a) : (((k : Nat) : Int) == (a : Int)) = true := by subst h; exact beq_self_eq_true _
theorem kne {k : Nat} {a : Nat} (h : ¬ k = a) : (((k : Nat) : Int) == (a : Int)) = false := by
  rw [beq_eq_false_iff_ne]
  omega
theorem kbn {k : Nat} {a : Nat} (h : ¬ k = a) : (((k : Nat) : Int) != (a : Int)) = true := by
  rw [bne_iff_ne]
  omega

attribute [local irreducible] Rr.left Rr.num Rr.hd Rr.textS Rr.textR decOk Msg.refE in
theorem refDecode_any (s : ByteArray) (hs : s.size ≤ 281474976710656) (w : World) : Calls Try.prog 15 #[.string s] w (RefPost s w) := by
  have z0 : (⟨s, false⟩ : Rr).s.size ≤ 281474976710656 := hs
  have z1 := Rr.leS _ 1 z0
  have z2 := Rr.leS _ 4 z1
  have z3 := Rr.leS _ 8 z2
  by_cases k1 : (⟨s, false⟩ : Rr).num 1 = 1
  · have z4 := Rr.leS _ 1 z3
    have z5 := Rr.leS _ 28 z4
    have z6 := Rr.leS _ 28 z5
    have z7 := Rr.teS _ z6
    have z8 := Rr.teS _ z7
    have z9 := Rr.leS _ 8 z8
    have z10 := Rr.leS _ 8 z9
    exact refdec_call s _ _ _ _ _ _ _ _ _ _ _ _ _ (Lib.hid rfl) _ _ _ _ _ _ _ _ _ _ _
      (Lib.hid (numC _ 1 (by omega) (by omega) z0)) (Lib.hid (numC _ 4 (by omega) (by omega) z1)) (Lib.hid (numC _ 8 (by omega) (by omega) z2)) (Lib.hid (numC _ 1 (by omega) (by omega) z3))
      (Lib.hid (hdC _ z4)) (Lib.hid (hdC _ z5)) (Lib.hid (txtC _ z6)) (Lib.hid (txtC _ z7)) (Lib.hid (numC _ 8 (by omega) (by omega) z8)) (Lib.hid (numC _ 8 (by omega) (by omega) z9)) (Lib.hid (txtC _ z10))
      (b255 _).1 (b255 _).2 (b32 _).1 (b32 _).2 (b255 _).1 (b255 _).2 (keq k1) (⟨s, false⟩ : Rr).callM (Lib.hid rfl) (Lib.hid (Rr.callM_ok _)) (Lib.hid (fw_call s k1)) w
  by_cases k2 : (⟨s, false⟩ : Rr).num 1 = 2
  · have z4 := Rr.leS _ 1 z3
    have z5 := Rr.leS _ 28 z4
    have z6 := Rr.leS _ 1 z5
    have z7 := Rr.leS _ 4 z6
    have z8 := Rr.leS _ 8 z7
    have z9 := Rr.leS _ 8 z8
    have z10 := Rr.teS _ z9
    have z11 := Rr.leS _ 1 z10
    have z12 := Rr.leS _ 8 z11
    have z13 := Rr.leS _ 4 z12
    have ze := fun j => Rr.enS (⟨s, false⟩ : Rr).e0 j z13
    exact refdec_reply s _ _ _ _ _ _ _ _ _ _ _ _ _ (Lib.hid rfl) _ _ _ _ _ _ _ _ _ _ _ _ _
      (fun j => ((⟨s, false⟩ : Rr).e0.ents j).2) _ _ _ _ _ _ _ _ _ _ _ _ (fun j => ((⟨s, false⟩ : Rr).e0.ents j).1)
      (Lib.hid (numC _ 1 (by omega) (by omega) z0)) (Lib.hid (numC _ 4 (by omega) (by omega) z1)) (Lib.hid (numC _ 8 (by omega) (by omega) z2)) (Lib.hid (numC _ 1 (by omega) (by omega) z3))
      (Lib.hid (hdC _ z4)) (Lib.hid (numC _ 1 (by omega) (by omega) z5)) (Lib.hid (numC _ 4 (by omega) (by omega) z6)) (Lib.hid (numC _ 8 (by omega) (by omega) z7)) (Lib.hid (numC _ 8 (by omega) (by omega) z8)) (Lib.hid (txtC _ z9))
      (Lib.hid (numC _ 1 (by omega) (by omega) z10)) (Lib.hid (numC _ 8 (by omega) (by omega) z11)) (Lib.hid (numC _ 4 (by omega) (by omega) z12))
      (Lib.hid (fun j => txtC _ (ze j))) (Lib.hid (fun j => numC _ 8 (by omega) (by omega) (Rr.teS _ (ze j)))) (Lib.hid (fun j => numC _ 8 (by omega) (by omega) (Rr.leS _ 8 (Rr.teS _ (ze j)))))
      (Lib.hid (fun j => numC _ 8 (by omega) (by omega) (ze j))) (Lib.hid (fun j => numC _ 8 (by omega) (by omega) (Rr.leS _ 8 (ze j)))) (Lib.hid (fun j => numC _ 8 (by omega) (by omega) (Rr.leS _ 8 (Rr.leS _ 8 (ze j)))))
      (Lib.hid rfl) (Lib.hid (fun j => rfl)) (Lib.hid (fun j => Rr.ents_length _ j))
      (b255 _).1 (b255 _).2 (b32 _).1 (b32 _).2 (b255 _).1 (b255 _).2 (b255 _).1 (b255 _).2 (b32 _).1 (b32 _).2 (Lib.hid (b32n _)) (kne k1) (keq k2) (kbn k1)
      (⟨s, false⟩ : Rr).repM (Lib.hid (fun j => rfl)) (Lib.hid (fun j hj => Rr.repM_ok _ j hj)) (Lib.hid (fun j h1 h2 h3 h => fw_reply s k2 j h1 h3 h)) w
  by_cases k3 : (⟨s, false⟩ : Rr).num 1 = 3
  · have z4 := Rr.leS _ 28 z3
    have z5 := Rr.leS _ 8 z4
    have z6 := Rr.leS _ 8 z5
    exact refdec_b3 s _ _ _ _ _ _ _ _ _ (Lib.hid rfl) _ _ _ _ _ _ _
      (Lib.hid (numC _ 1 (by omega) (by omega) z0)) (Lib.hid (numC _ 4 (by omega) (by omega) z1)) (Lib.hid (numC _ 8 (by omega) (by omega) z2)) (Lib.hid (hdC _ z3))
      (Lib.hid (numC _ 8 (by omega) (by omega) z4)) (Lib.hid (numC _ 8 (by omega) (by omega) z5)) (Lib.hid (numC _ 8 (by omega) (by omega) z6))
      (b255 _).1 (b255 _).2 (b32 _).1 (b32 _).2 (kne k1) (kne k2) (keq k3) (kbn k1) (⟨s, false⟩ : Rr).backM (Lib.hid rfl) (Lib.hid (Rr.backM_ok _)) (Lib.hid (fw_back s (.inl k3))) w
  by_cases k4 : (⟨s, false⟩ : Rr).num 1 = 4
  · have z4 := Rr.leS _ 28 z3
    have z5 := Rr.leS _ 8 z4
    have z6 := Rr.leS _ 8 z5
    exact refdec_b4 s _ _ _ _ _ _ _ _ _ (Lib.hid rfl) _ _ _ _ _ _ _
      (Lib.hid (numC _ 1 (by omega) (by omega) z0)) (Lib.hid (numC _ 4 (by omega) (by omega) z1)) (Lib.hid (numC _ 8 (by omega) (by omega) z2)) (Lib.hid (hdC _ z3))
      (Lib.hid (numC _ 8 (by omega) (by omega) z4)) (Lib.hid (numC _ 8 (by omega) (by omega) z5)) (Lib.hid (numC _ 8 (by omega) (by omega) z6))
      (b255 _).1 (b255 _).2 (b32 _).1 (b32 _).2 (kne k1) (kne k2) (kne k3) (keq k4) (kbn k1) (⟨s, false⟩ : Rr).backM (Lib.hid rfl) (Lib.hid (Rr.backM_ok _)) (Lib.hid (fw_back s (.inr k4))) w
  · have y3 : (⟨(⟨s, false⟩ : Rr).a0.s, true⟩ : Rr).s.size ≤ 281474976710656 := z3
    have y4 := Rr.leS _ 8 y3
    have y5 := Rr.leS _ 8 y4
    have hb : ((((⟨(⟨s, false⟩ : Rr).a0.s, true⟩ : Rr).left 8).left 8).left 8).bad = true := Rr.left_bad _ _ (Rr.left_bad _ _ (Rr.left_bad _ _ rfl))
    have C6 := numC _ 8 (by omega) (by omega) y5
    rw [Rr.mk_bad _ hb] at C6
    exact refdec_other s _ _ _ _ _ _ _ (Lib.hid rfl) _ _ _ _ _ _
      (Lib.hid (numC _ 1 (by omega) (by omega) z0)) (Lib.hid (numC _ 4 (by omega) (by omega) z1)) (Lib.hid (numC _ 8 (by omega) (by omega) z2))
      (Lib.hid (numC _ 8 (by omega) (by omega) y3)) (Lib.hid (numC _ 8 (by omega) (by omega) y4)) (Lib.hid C6)
      (b255 _).1 (b255 _).2 (b32 _).1 (b32 _).2 (kne k1) (kne k2) (kne k3) (kne k4) (kbn k1) (no_other s k1 k2 k3 k4) w

end Go.Proofs.Ytibcadfpengacaa

-- Decodes
set_option linter.unusedVariables false
set_option linter.unusedSimpArgs false
namespace Go.Proofs.Ytibcadfpengacaa
open Go.RowKit Go.Lib Go.Proofs.YtibcadfpengacaaW.PrintWords Go.Proofs.YtibcadfpengacaaW.PrintMore Go.Proofs.YtibcadfpengacaaW.PrintLast

theorem ref_val {m : Msg} (hk : m.Ok) {s : ByteArray} (h : m.refE = (s, 0)) : m.Val ∧ m.layS = s := by
  unfold Msg.refE at h
  cases h1 : m.long with
  | true =>
    rw [h1, if_pos rfl] at h
    exact absurd (congrArg Prod.snd h) (show ¬ (2201 : Int) = 0 from by decide)
  | false =>
    rw [h1, if_neg (by decide)] at h
    cases h2 : m.mayB with
    | false =>
      rw [h2, if_pos rfl] at h
      exact absurd (congrArg Prod.snd h) (show ¬ (2200 : Int) = 0 from by decide)
    | true =>
      rw [h2, if_neg (by decide)] at h
      exact ⟨⟨hk, h1, h2⟩, congrArg Prod.fst h⟩
theorem refDecode_dec (s : ByteArray) (hs : s.size ≤ 281474976710656) (w : World) : Calls Try.prog 15 #[.string s] w fun e w' =>
    ∃ A cap, e = .returned (.tuple #[.agg ((decM s).vs (.slice A (decM s).list.length cap)).toArray, .int .i64 (decC s)]) ∧ EntsR w' A (decM s).list ∧ (∀ b o, A = some ⟨b, o, none⟩ → w.heap.size ≤ b) ∧ Below w.heap.size w w' := by
  refine (refDecode_any s hs w).mono ?_
  rintro e w' ⟨M, A, cap, C, rfl, ⟨h1, h2⟩, hb, h3⟩
  have hM : decM s = M ∧ decC s = C := by
    rcases h3 with ⟨rfl, hk, hr⟩ | ⟨rfl, rfl, hd⟩
    · have hv := ref_val hk hr
      have := dec_layS M hv.1
      rw [hv.2] at this
      exact this
    · unfold decM decC
      rw [hd]
      exact ⟨rfl, rfl⟩
  rw [hM.1, hM.2]
  exact ⟨A, cap, rfl, h1, h2, hb⟩
theorem val_small {m : Msg} (h : m.Val) : m.list.length ≤ 64 ∧ ∀ e ∈ m.list, e.name.size ≤ 4096 := by
  have hl := h.short
  unfold Msg.long at hl
  simp only [Bool.or_eq_false_iff, decide_eq_false_iff_not, List.any_eq_false, decide_eq_true_eq] at hl
  obtain ⟨⟨_, l5⟩, l6⟩ := hl
  exact ⟨by omega, fun e he => by have := l5 e he; omega⟩
theorem dec_small (s : ByteArray) : (decM s).list.length ≤ 64 ∧ ∀ e ∈ (decM s).list, e.name.size ≤ 4096 := by
  unfold decM
  cases h : decOk s with
  | true =>
    rw [if_pos rfl]
    exact val_small (inv_dec s h).2
  | false =>
    rw [if_neg (by decide)]
    exact ⟨Nat.zero_le _, fun e he => by cases he⟩
theorem OwnEnts.ne {w0 w : World} {A : Option Addr} {cap : Nat} {es : List Ent} (h : OwnEnts w0 w A cap es) {g : Nat} {cs : List Value} (hg : Blk w g 36 cs) : ¬ A = some ⟨g, 0, none⟩ := by
  intro e
  rcases h with ⟨_, rfl, _⟩ | ⟨L, _, rfl, _, _, h5⟩
  · cases e
  · injection e with e
    injection e with e _ _
    subst e
    have h6 := (show w.heap[L]? = _ from h5).symm.trans hg
    injection h6 with h6
    injection h6 with _ h7 _
    exact absurd h7 (by decide)
set_option maxRecDepth 100000 in
theorem spoil_nil (c : Nat) (w : World) : Calls Try.prog 17 #[.slice none 0 c] w fun e w' => e = .returned (.tuple #[]) ∧ w' = w := by
  go_enter Try.func17, Try.ntmps17
  go_wp2
  go_loopw [2] (fun i wr => i = .int .i64 0 ∧ wr = w) (fun i _ => 0)
  case atStart => exact ⟨rfl, rfl⟩
  case round =>
    obtain ⟨rfl, rfl⟩ := hrel
    go_wp2
    go_end0
    exact ⟨rfl, rfl⟩
/-- A message's list spoiled: its block alone turns. -/
theorem spoil_own {w0 : World} (A : Option Addr) (c : Nat) (es : List Ent) (hl : es.length ≤ 64) (hs : ∀ e ∈ es, e.name.size ≤ 4096) (w : World) (h : (es = [] ∧ A = none ∧ c = 0) ∨ ∃ L, w0.heap.size ≤ L ∧ A = some ⟨L, 0, none⟩ ∧ c = es.length ∧ es ≠ [] ∧ Blk w L 99 (es.flatMap Ent.vs)) :
    Calls Try.prog 17 #[.slice A es.length c] w fun e w' => e = .returned (.tuple #[]) ∧ Keeps (fun k => A = some ⟨k, 0, none⟩) w w' := by
  rcases h with ⟨rfl, rfl, rfl⟩ | ⟨L, _, rfl, rfl, _, hb⟩
  · refine (spoil_nil 0 w).mono ?_
    rintro e w' ⟨rfl, rfl⟩
    exact ⟨rfl, Keeps.refl _ _⟩
  · refine (spoil_any L es.length es (by omega) (fun e he => by have := hs e he; omega) w ⟨_, hb, [], (List.append_nil _).symm⟩).mono ?_
    rintro e w' ⟨rfl, hk⟩
    exact ⟨rfl, hk.mono (fun k _ e => by rw [e])⟩
theorem OwnEnts.below {w0 w w' : World} {A : Option Addr} {cap : Nat} {es : List Ent} (h : OwnEnts w0 w A cap es) (hb : Below w.heap.size w w') : OwnEnts w0 w' A cap es := by
  rcases h with h | ⟨L, h1, h2, h3, h4, h5⟩
  · exact .inl h
  · exact .inr ⟨L, h1, h2, h3, h4, h5.below hb⟩
theorem OwnEnts.lt {w0 w : World} {A : Option Addr} {cap : Nat} {es : List Ent} (h : OwnEnts w0 w A cap es) : ∀ b o, A = some ⟨b, o, none⟩ → w0.heap.size ≤ b ∧ b < w.heap.size := by
  intro b o e
  rcases h with ⟨_, rfl, _⟩ | ⟨L, h1, rfl, _, _, h5⟩
  · cases e
  · injection e with e; injection e with e _ _; subst e; exact ⟨h1, h5.lt⟩

set_option maxHeartbeats 8000000 in
set_option maxRecDepth 100000 in
theorem decodes_walk (s : ByteArray) (hs : s.size ≤ 281474976710656) (w : World) :
    Calls Try.prog 4 #[.string s] w fun e w' => e = .returned (.bool true) ∧ Below w.heap.size w w' := by
  have HD := Lib.hid (fun w => decode_any s hs w)
  have HR := Lib.hid (fun w => refDecode_dec s hs w)
  unfold DecPost at HD
  have HS := Lib.hid (dec_small s)
  generalize hm : decM s = m at *
  generalize hc : decC s = cc at *
  clear hm hc
  go_enter Try.func4, Try.ntmps4
  go_wp2_with fail
  refine (HD.out w).mono ?_
  rintro e w1 ⟨A1, c1, rfl, ho, hb⟩
  have KB1 := Lib.hid hb
  have O1 := Lib.hid ho
  have T1 := Lib.hid (MsgAt.of m A1 c1)
  clear hb ho
  generalize m.vs (.slice A1 m.list.length c1) = x1 at *
  go_wp2_with (first
    | ((with_reducible refine gate_dst (N := 3) rfl ?_); refine box_event rfl (N := 3) rfl (run_allocM _ _ rfl _) ?_; intro g3 hg3 v2 hbox hbel; have Bg3 := Lib.hid (show Blk v2 g3 36 zcs from hbox); have BLg3 := Lib.hid hbel; have Hg3 := Lib.hid hg3; clear hbox hbel hg3)
    | ((with_reducible refine gate_store (t := 36) (p := 3) rfl ?_); refine wpList_store_mid rfl 36 _ _ rfl g3 0 x1.toArray rfl rfl ?ht ?hi ?h1 ?_; (case ht => exact Bg3.out.there _ (by rw [List.size_toArray, T1.out.len]; exact Nat.le_refl 33)); (case hi => rw [List.size_toArray, T1.out.len]; exact infoMsg); (case h1 => exact all_oneCell_toArray T1.out.one); have B2g3 := Lib.hid (Bg3.out.setAll x1 (by rw [T1.out.len]; rfl)); have Kg3 := Lib.hid (Keeps.setCells (S := fun k => k = g3) x1 0 v2 (Keeps.refl _ _) (fun _ => rfl)); change wpList _ _ _ _ _ (v2.setCells g3 0 x1); generalize v2.setCells g3 0 x1 = w2 at B2g3 Kg3 ⊢; have BMg3 := Lib.hid (BLg3.out.trans (Kg3.out.below BLg3.out.size (fun k hk => by show ¬ k = g3; have := Hg3.out; omega))); clear Bg3 BLg3 Kg3 Hg3; have KB2 := Lib.hid (KB1.out.trans (BMg3.out.mono KB1.out.size)); have O2 := Lib.hid (O1.out.below BMg3.out); clear O1 KB1 BMg3))
  refine (HD.out w2).mono ?_
  rintro e w3 ⟨A2, c2, rfl, ho, hb⟩
  have KB3 := Lib.hid (KB2.out.trans (hb.mono KB2.out.size))
  have O3 := Lib.hid (O2.out.below hb)
  have B3 := Lib.hid (B2g3.out.below hb)
  have P3 := Lib.hid ho
  have T2 := Lib.hid (MsgAt.of m A2 c2)
  have D2 := Lib.hid (fun b o e => (ho.lt b o e).1)
  have D1 := Lib.hid (fun b o e => (O2.out.lt b o e).2)
  clear hb ho B2g3 O2 KB2
  generalize m.vs (.slice A2 m.list.length c2) = x2 at *
  go_wp2_with (first
    | ((with_reducible refine gate_dst (N := 5) rfl ?_); refine box_event rfl (N := 5) rfl (run_allocM _ _ rfl _) ?_; intro g5 hg5 v4 hbox hbel; have Bg5 := Lib.hid (show Blk v4 g5 36 zcs from hbox); have BLg5 := Lib.hid hbel; have Hg5 := Lib.hid hg5; clear hbox hbel hg5)
    | ((with_reducible refine gate_store (t := 36) (p := 5) rfl ?_); refine wpList_store_mid rfl 36 _ _ rfl g5 0 x2.toArray rfl rfl ?ht ?hi ?h1 ?_; (case ht => exact Bg5.out.there _ (by rw [List.size_toArray, T2.out.len]; exact Nat.le_refl 33)); (case hi => rw [List.size_toArray, T2.out.len]; exact infoMsg); (case h1 => exact all_oneCell_toArray T2.out.one); have B2g5 := Lib.hid (Bg5.out.setAll x2 (by rw [T2.out.len]; rfl)); have Kg5 := Lib.hid (Keeps.setCells (S := fun k => k = g5) x2 0 v4 (Keeps.refl _ _) (fun _ => rfl)); change wpList _ _ _ _ _ (v4.setCells g5 0 x2); generalize v4.setCells g5 0 x2 = w4 at B2g5 Kg5 ⊢; have BMg5 := Lib.hid (BLg5.out.trans (Kg5.out.below BLg5.out.size (fun k hk => by show ¬ k = g5; have := Hg5.out; omega))); clear Bg5 BLg5 Kg5 Hg5; have KB4 := Lib.hid (KB3.out.trans (BMg5.out.mono KB3.out.size)); have O4 := Lib.hid (O3.out.below BMg5.out); have P4 := Lib.hid (P3.out.below BMg5.out); have B4 := Lib.hid (B3.out.below BMg5.out); have Z4 := Lib.hid BMg5.out.size; clear O3 P3 KB3 B3 BMg5))
  refine (HR.out w4).mono ?_
  rintro e w5 ⟨A3, c3, rfl, hr, hf, hb⟩
  have KB5 := Lib.hid (KB4.out.trans (hb.mono KB4.out.size))
  have O5 := Lib.hid (O4.out.below hb)
  have P5 := Lib.hid (P4.out.below hb)
  have B5 := Lib.hid (B4.out.below hb)
  have C5 := Lib.hid (B2g5.out.below hb)
  have R5 := Lib.hid hr
  have D3 := Lib.hid hf
  have T3 := Lib.hid (MsgAt.of m A3 c3)
  have D13 := Lib.hid (fun b o (e : A1 = some ⟨b, o, none⟩) => (O4.out.lt b o e).2)
  clear hb hr hf B4 B2g5 O4 P4 KB4
  generalize m.vs (.slice A3 m.list.length c3) = x3 at *
  go_wp2_with (first
    | ((with_reducible refine gate_dst (N := 7) rfl ?_); refine box_event rfl (N := 7) rfl (run_allocM _ _ rfl _) ?_; intro g7 hg7 v6 hbox hbel; have Bg7 := Lib.hid (show Blk v6 g7 36 zcs from hbox); have BLg7 := Lib.hid hbel; have Hg7 := Lib.hid hg7; clear hbox hbel hg7)
    | ((with_reducible refine gate_store (t := 36) (p := 7) rfl ?_); refine wpList_store_mid rfl 36 _ _ rfl g7 0 x3.toArray rfl rfl ?ht ?hi ?h1 ?_; (case ht => exact Bg7.out.there _ (by rw [List.size_toArray, T3.out.len]; exact Nat.le_refl 33)); (case hi => rw [List.size_toArray, T3.out.len]; exact infoMsg); (case h1 => exact all_oneCell_toArray T3.out.one); have B2g7 := Lib.hid (Bg7.out.setAll x3 (by rw [T3.out.len]; rfl)); have Kg7 := Lib.hid (Keeps.setCells (S := fun k => k = g7) x3 0 v6 (Keeps.refl _ _) (fun _ => rfl)); change wpList _ _ _ _ _ (v6.setCells g7 0 x3); generalize v6.setCells g7 0 x3 = w6 at B2g7 Kg7 ⊢; have BMg7 := Lib.hid (BLg7.out.trans (Kg7.out.below BLg7.out.size (fun k hk => by show ¬ k = g7; have := Hg7.out; omega))); clear Bg7 BLg7 Kg7 Hg7; have KB6 := Lib.hid (KB5.out.trans (BMg7.out.mono KB5.out.size)); have O6 := Lib.hid (O5.out.below BMg7.out); have P6 := Lib.hid (P5.out.below BMg7.out); have R6 := Lib.hid (R5.out.below BMg7.out); have B6 := Lib.hid (B5.out.below BMg7.out); have C6 := Lib.hid (C5.out.below BMg7.out); have Z6 := Lib.hid BMg7.out.size; clear O5 P5 R5 KB5 B5 C5 BMg7)
    | ((with_reducible refine gate_dst (N := 24) rfl ?_); refine wpList_load_mid rfl 36 _ rfl g3 0 rfl x1 _ ?hc Try.underlying36 rfl ?hi ?_; (case hc => exact B6.out.range); (case hi => rw [T1.out.len]; exact infoMsg))
    | ((with_reducible refine gate_dst (N := 25) rfl ?_); refine wpList_load_mid rfl 36 _ rfl g7 0 rfl x3 _ ?hc Try.underlying36 rfl ?hi ?_; (case hc => exact B2g7.out.range); (case hi => rw [T3.out.len]; exact infoMsg)))
  refine (same_raw m A1 A3 c1 c3 x1 x3 T1.out T3.out (by have := HS.out.1; omega) w6 O6.out.reads R6.out).mono ?_
  rintro e w7 ⟨rfl, hb⟩
  have KB7 := Lib.hid (KB6.out.trans (hb.mono KB6.out.size))
  have O7 := Lib.hid (O6.out.below hb)
  have P7 := Lib.hid (P6.out.below hb)
  have R7 := Lib.hid (R6.out.below hb)
  have B7 := Lib.hid (B6.out.below hb)
  have C7 := Lib.hid (C6.out.below hb)
  have E7 := Lib.hid (B2g7.out.below hb)
  have Z7 := Lib.hid hb.size
  clear hb O6 P6 R6 KB6 B6 C6 B2g7
  have hcc : (cc != cc) = false := by simp
  have c29 := B7.out.cell 29 (T1.out.ans 12 _ rfl)
  go_wp2_with (first
    | (go_at_call 11; refine (num_any _ _).mono ?_; rintro e w' ⟨rfl, rfl⟩))
  refine (spoil_own (w0 := w) A1 c1 m.list HS.out.1 HS.out.2 w7 O7.out).mono ?_
  rintro e w8 ⟨rfl, hk⟩
  have C8 := Lib.hid (C7.out.kept hk (O7.out.ne C7.out))
  have E8 := Lib.hid (E7.out.kept hk (O7.out.ne E7.out))
  have P8 := Lib.hid (P7.out.reads.kept hk (fun b o e _ h => by have h1 := D2.out b o e; have h2 := D1.out b 0 h; omega))
  have R8 := Lib.hid (R7.out.kept hk (fun b o e _ h => by have h1 := D3.out b o e; have h2 := D13.out b 0 h; omega))
  have KB8 := Lib.hid (KB7.out.trans (hk.below KB7.out.size (fun k h1 h2 => by have := (O7.out.lt k 0 h2).1; omega)))
  clear hk O7 P7 R7 KB7 B7 C7 E7 c29
  go_wp2_with (first
    | ((with_reducible refine gate_dst (N := 44) rfl ?_); refine wpList_load_mid rfl 36 _ rfl g5 0 rfl x2 _ ?hc Try.underlying36 rfl ?hi ?_; (case hc => exact C8.out.range); (case hi => rw [T2.out.len]; exact infoMsg))
    | ((with_reducible refine gate_dst (N := 45) rfl ?_); refine wpList_load_mid rfl 36 _ rfl g7 0 rfl x3 _ ?hc Try.underlying36 rfl ?hi ?_; (case hc => exact E8.out.range); (case hi => rw [T3.out.len]; exact infoMsg))
    | (go_at_call 16; refine (same_raw m A2 A3 c2 c3 x2 x3 T2.out T3.out (by have := HS.out.1; omega) _ P8.out R8.out).mono ?_; rintro e w9 ⟨rfl, hb⟩; have KB9 := Lib.hid (KB8.out.trans (hb.mono KB8.out.size)); clear hb)
    | (go_at_call 13; refine (awake22_any _).mono ?_; rintro e w10 ⟨rfl, hb⟩; have KB10 := Lib.hid (KB9.out.trans (hb.mono KB9.out.size)); clear hb))
  go_ret
  exact ⟨rfl, KB10.out⟩

end Go.Proofs.Ytibcadfpengacaa

-- DecodesRow
set_option linter.unusedVariables false
namespace Go.Proofs.Ytibcadfpengacaa.wireDecodes
open Go.ChangeShapes Go.WideShapes Go.ChangeAt Go.RowKit
open Go.ChangeMaps (open_string shut_string)

theorem own : ownKnob Try.prog.godebug = none := by kernel_rfl
set_option maxRecDepth 100000 in
theorem lifted (os : Os) (started : os.Started) (H : Type) (enc : TypeId × Value → H) :
    ReturnsInHanded {} Try.checked os 4 .any (Rows.wireDecodesSpec.pre6 enc Try.prog Try.f4 Rows.wireDecodesRow.domain false) (Rows.wireDecodesSpec.post enc Try.prog Try.f4 false true false false) := by
  refine returnsInHanded_of_change_sized (C := Try.checked) own started (by kernel_rfl) Try.func4
    (ChangeSpec.witness6 (enc := enc) (C := Try.checked) false ⟨#[], #[.string ByteArray.empty], []⟩ 8 (by kernel_rfl) (by kernel_rfl) (by kernel_rfl) (by kernel_rfl)) ?_
  intro W base args ds gs before hval0 hW hcnd hsz0 _
  have hsz : (DataW.weightsEach Try.prog (Try.f4.params.toList ++ Rows.wireDecodesSpec.plain.varTypes Try.prog) (ds ++ gs)).all (· ≤ reachBytes) = true := hsz0
  have hval : ∀ (j : Nat) t v, Try.f4.params[j]? = some t → args[j]? = some v → Value.okWide Try.prog W .any base t v := hval0
  have hW' := hW
  obtain ⟨p, q, hA0, hV, rfl, hfz, hnd⟩ := hW
  have hA : DataW.TrodAll enc Try.prog W 0 (fun _ => true) true Try.f4.params.toList args.toList ds p := hA0
  rw [Try.params4] at hA hval hsz
  obtain ⟨v0, vs0, d0, ds0, p0, q0, hargs, rfl, rfl, h0, r0⟩ := trodAll_cons hA
  obtain ⟨rfl, rfl, rfl⟩ := trodAll_nil r0
  obtain rfl : args = #[v0] := by cases args; simp_all
  obtain ⟨rfl, rfl⟩ := trodVars_none hV
  obtain ⟨a0, rfl, rfl, rfl, y0⟩ := open_string Try.underlying9 (hval 0 9 v0 rfl rfl) h0
  have w0 : a0.size ≤ 140737488351232 := by
    have z := sized_string hsz (j := 0) (t := 9) rfl rfl
    rw [Array.length_toList] at z
    exact z
  clear hA0 hval0 hsz0 hsz
  refine (decodes_walk a0 (by omega) W).mono fun e W' ⟨he, bel⟩ => ?_
  subst he
  exact ⟨_, rfl, _, _, _, [], _, [], hW', trodAll_mk1 (shut_bool Try.underlying4 _), (trodAll_cons_mk (shut_string Try.underlying9 y0) trodAll_mk0), rfl, bel.frame _, fun h => by cases h⟩
theorem over : Rows.wireDecodesRow.holds Try.pinned (OpenSpec.ofChange Rows.wireDecodesSpec) :=
  OpenClaim.holds_of_wide 4 Try.f4 rfl rfl rfl rfl rfl rfl rfl ⟨rfl, rfl, rfl, rfl, rfl⟩ rfl rfl rfl rfl rfl (by kernel_rfl) Try.func4 (by kernel_rfl)
    (of_decide_eq_true (by kernel_rfl)) (by unfold Func.isWrapper; first | (rw [if_pos (by decide +kernel)]; kernel_rfl) | (rw [if_neg (by decide +kernel)]; exact ⟨rfl, rfl⟩))
    (fun os started H enc _ => lifted os started H enc)
end Go.Proofs.Ytibcadfpengacaa.wireDecodes
namespace Go.Proofs.Ytibcadfpengacaa
theorem wireDecodes_holds : Rows.WireDecodesSaid := wireDecodes.over
#print axioms wireDecodes_holds
end Go.Proofs.Ytibcadfpengacaa
