/- Words, contracts and plain laws for the claim's last text: Reader, FieldsR, ListR, AskR, MsgR. -/
import Derived.Test.YtibcadfpengacaaMn1
-- Reader
set_option linter.unusedVariables false
set_option linter.unusedSimpArgs false
namespace Go.Proofs.Ytibcadfpengacaa
open Go.RowKit Go.Lib Go.Proofs.YtibcadfpengacaaW.PrintWords

/-- A reader's code and text. -/
structure Rd where
  c : Int
  s : ByteArray

abbrev RdS (w : World) (R : Nat) (ρ : Rd) : Prop := Blk w R 92 [.int .i64 ρ.c, .string ρ.s]

def Rd.fail (ρ : Rd) : Rd := ⟨if ρ.c = 0 then 2200 else ρ.c, ρ.s⟩
def Rd.took (ρ : Rd) (n : Nat) : ByteArray := if ρ.s.size < n then ⟨#[]⟩ else ρ.s.extract 0 n
def Rd.left (ρ : Rd) (n : Nat) : Rd := if ρ.s.size < n then ⟨ρ.fail.c, ⟨#[]⟩⟩ else ⟨ρ.c, ρ.s.extract n ρ.s.size⟩

theorem Rd.left_size (ρ : Rd) (n : Nat) : (ρ.left n).s.size ≤ ρ.s.size := by
  unfold Rd.left
  split
  · show 0 ≤ _; omega
  · show (ρ.s.extract n ρ.s.size).size ≤ _
    rw [ByteArray.size_extract]; omega
theorem Rd.took_size (ρ : Rd) (n : Nat) : (ρ.took n).size ≤ n := by
  unfold Rd.took
  split
  · show 0 ≤ _; omega
  · rw [ByteArray.size_extract]; omega

set_option maxHeartbeats 1000000 in
theorem fail_cell (R : Nat) (c e : Int) (w : World) (h : w.cell? ⟨R, 0, none⟩ = some (.int .i64 c)) (hf : w.frozen? ⟨R, 0, none⟩ = false) :
    Calls Try.prog 92 #[.pointer (some ⟨R, 0, none⟩), .int .i64 e] w fun r w' => r = .returned (.tuple #[]) ∧ w' = w.setCell ⟨R, 0, none⟩ (.int .i64 (if c = 0 then e else c)) := by
  by_cases hc : c = 0
  · have hcb : (c == 0) = true := by rw [hc]; rfl
    rw [if_pos hc]
    clear hc
    go_enter Try.func92, Try.ntmps92
    go_wp2
    go_end0
    exact ⟨rfl, rfl⟩
  · have hcb : (c == 0) = false := beq_eq_false_iff_ne.2 hc
    rw [if_neg hc, setCell_self h]
    clear hc
    go_enter Try.func92, Try.ntmps92
    go_wp2
    go_end0
    exact ⟨rfl, rfl⟩

theorem fail_r (R : Nat) (ρ : Rd) (w : World) (h : RdS w R ρ) :
    Calls Try.prog 92 #[.pointer (some ⟨R, 0, none⟩), .int .i64 2200] w fun r w' => r = .returned (.tuple #[]) ∧ RdS w' R ρ.fail ∧ Keeps (fun k => k = R) w w' := by
  refine (fail_cell R ρ.c 2200 w (h.cell 0 rfl) (h.frozen 0)).mono ?_
  rintro e w' ⟨rfl, rfl⟩
  exact ⟨rfl, h.set 0 _, Keeps.setCell (S := fun k => k = R) (Keeps.refl _ _) (fun _ => rfl) _⟩

set_option maxHeartbeats 4000000 in
theorem take_r (R : Nat) (ρ : Rd) (n : Nat) (hn : n ≤ 100000) (hs : ρ.s.size ≤ 281474976710656) (w : World) (h : RdS w R ρ) :
    Calls Try.prog 99 #[.pointer (some ⟨R, 0, none⟩), .int .i64 n] w fun r w' => r = .returned (.string (ρ.took n)) ∧ RdS w' R (ρ.left n) ∧ Keeps (fun k => k = R) w w' := by
  have c1 : w.cell? ⟨R, 1, none⟩ = some (.string ρ.s) := h.cell 1 rfl
  have f1 := h.frozen 1
  have hf := fail_r R ρ w h
  by_cases hlt : ρ.s.size < n
  · have ht : ρ.took n = ⟨#[]⟩ := by unfold Rd.took; rw [if_pos hlt]
    have hl : ρ.left n = ⟨ρ.fail.c, ⟨#[]⟩⟩ := by unfold Rd.left; rw [if_pos hlt]
    rw [ht, hl]
    have hz : (ρ.s.size : Int) < (n : Int) := by omega
    have HF := Lib.hid hf
    clear hf ht hl hlt h
    go_enter Try.func99, Try.ntmps99
    go_wp2_with fail
    refine HF.out.mono ?_
    rintro e w1 ⟨rfl, q1, k1⟩
    have d1 : w1.cell? ⟨R, 1, none⟩ = some (.string ρ.s) := q1.cell 1 rfl
    have g1 := q1.frozen 1
    have Q1 := Lib.hid q1
    have K1 := Lib.hid k1
    clear q1 k1 HF
    go_wp2_with fail
    go_ret
    exact ⟨rfl, Q1.out.set 1 (.string ⟨#[]⟩), K1.out.setCell (fun _ => rfl) _⟩
  · have ht : ρ.took n = ρ.s.extract 0 n := by unfold Rd.took; rw [if_neg hlt]
    have hl : ρ.left n = ⟨ρ.c, ρ.s.extract n ρ.s.size⟩ := by unfold Rd.left; rw [if_neg hlt]
    rw [ht, hl]
    have hz : ¬ (ρ.s.size : Int) < (n : Int) := by omega
    have hz2 : (n : Int) ≤ (ρ.s.size : Int) := by omega
    have H := Lib.hid h
    clear hf ht hl hlt h
    go_enter Try.func99, Try.ntmps99
    go_wp2_with fail
    go_ret
    exact ⟨rfl, H.out.set 1 (.string (ρ.s.extract n ρ.s.size)), Keeps.setCell (S := fun k => k = R) (Keeps.refl _ _) (fun _ => rfl) _⟩

/-- What number reads. -/
def Rd.num (ρ : Rd) (n : Nat) : Nat := ofS (ρ.took n)

set_option maxHeartbeats 4000000 in
theorem number_r (R b o : Nat) (t : TypeId) (cs : List Value) (x0 : Int) (ρ : Rd) (n : Nat) (hn : n ≤ 100000) (hs : ρ.s.size ≤ 281474976710656) (w : World) (h : RdS w R ρ) (hb : Blk w b t cs) (ho : cs[o]? = some (.int .u64 x0)) (hne : b ≠ R) :
    Calls Try.prog 98 #[.pointer (some ⟨R, 0, none⟩), .pointer (some ⟨b, o, none⟩), .int .i64 n] w fun r w' => r = .returned (.tuple #[]) ∧ RdS w' R (ρ.left n) ∧ Blk w' b t (cs.set o (.int .u64 (ρ.num n : Int))) ∧ Keeps (fun k => k = R ∨ k = b) w w' := by
  have C := Lib.hid (take_r R ρ n hn hs w h)
  have C2 := Lib.hid (ofLe_calls (ρ.took n))
  have H := Lib.hid hb
  have HO := Lib.hid ho
  have hne' : R ≠ b := fun e => hne e.symm
  clear hb ho h
  unfold Rd.num
  go_enter Try.func98, Try.ntmps98
  go_wp2_with fail
  refine C.out.mono ?_
  rintro e w1 ⟨rfl, q1, k1⟩
  have b1 : Blk w1 b t cs := H.out.kept k1 hne
  have Q1 := Lib.hid q1
  have K1 := Lib.hid k1
  have B1 := Lib.hid b1
  clear q1 k1 b1 C
  go_wp2_with fail
  refine (C2.out _).mono ?_
  rintro e w2 ⟨rfl, ⟨nd, hd⟩⟩
  have q2 : RdS w2 R (ρ.left n) := by rw [hd]; exact Q1.out.drewN nd
  have b2 : Blk w2 b t cs := by rw [hd]; exact B1.out.drewN nd
  have k2 : Keeps (fun k => k = R) w w2 := by rw [hd]; exact K1.out.drewN nd
  have d2 := b2.cell o HO.out
  have f2 := b2.frozen o
  have Q2 := Lib.hid q2
  have K2 := Lib.hid k2
  have B2 := Lib.hid b2
  clear q2 k2 b2 hd Q1 K1 B1
  go_wp2_with fail
  go_end0
  exact ⟨rfl, Blk.other (a := ⟨b, o, none⟩) Q2.out hne' _, B2.out.set o _, Keeps.setCell (S := fun k => k = R ∨ k = b) (K2.out.mono (fun _ _ h => .inl h)) (fun _ => .inr rfl) _⟩

/-! ### handles -/

set_option maxHeartbeats 4000000 in
set_option maxRecDepth 100000 in
theorem hnumber (R : Nat) (s : ByteArray) (p n : Nat) (hn : p + n ≤ s.size) (hs : s.size ≤ 281474976710656) (w : World) (h : Blk w R 171 [.string s, .int .i64 p]) :
    Calls Try.prog 104 #[.pointer (some ⟨R, 0, none⟩), .int .i64 n] w fun r w' => r = .returned (.int .u64 (ofS (s.extract p (p + n)))) ∧ Blk w' R 171 [.string s, .int .i64 (p + n : Nat)] ∧ Keeps (fun k => k = R) w w' := by
  have c0 : w.cell? ⟨R, 0, none⟩ = some (.string s) := h.cell 0 rfl
  have c1 : w.cell? ⟨R, 1, none⟩ = some (.int .i64 p) := h.cell 1 rfl
  have hp0 : (0 : Int) ≤ (p : Int) := by omega
  have hpn : (0 : Int) ≤ (p : Int) + (n : Int) := by omega
  have hps : (p : Int) + (n : Int) ≤ (s.size : Int) := by omega
  have hpp : (p : Int) ≤ (p : Int) + (n : Int) := by omega
  have htn : ((p : Int) + (n : Int)).toNat = p + n := by omega
  have H := Lib.hid h
  have C := Lib.hid (ofLe_calls (s.extract p (p + n)))
  clear h
  go_enter Try.func104, Try.ntmps104
  go_wp2_with fail
  go_quiet ((go_at_call 102; exact Calls.quiet_of ((C.out _).mono fun _ _ ⟨h1, h2⟩ => ⟨h1, h2.out⟩)))
  have hw : ∀ x, w.drewN nq = x → Blk x R 171 [.string s, .int .i64 p] ∧ Keeps (fun k => k = R) w x := by
    rintro x rfl
    exact ⟨H.out.drewN nq, (Keeps.refl _ _).drewN nq⟩
  generalize hx : w.drewN nq = x
  obtain ⟨q, k⟩ := hw x hx
  have d1 : x.cell? ⟨R, 1, none⟩ = some (.int .i64 p) := q.cell 1 rfl
  have g1 := q.frozen 1
  have Q := Lib.hid q
  have K := Lib.hid k
  clear hw hx q k c0 c1
  go_wp2_with fail
  go_ret
  refine ⟨rfl, ?_, K.out.setCell (fun _ => rfl) _⟩
  have := Q.out.set 1 (.int .i64 (p + n : Nat))
  simpa using this

def decH (s : ByteArray) : Hd := if s.size = 28 then ⟨ofS (s.extract 0 4), ofS (s.extract 4 12), ofS (s.extract 12 20), ofS (s.extract 20 28)⟩ else ⟨0, 0, 0, 0⟩
def decE (s : ByteArray) : Int := if s.size = 28 then 0 else 2100

set_option maxHeartbeats 4000000 in
set_option maxRecDepth 100000 in
theorem hdecode (s : ByteArray) (hs : s.size ≤ 281474976710656) (w : World) :
    Calls Try.prog 101 #[.string s] w fun r w' => r = .returned (.tuple #[.agg #[.int .u32 (decH s).ex, .int .u64 (decH s).snap, .int .u64 (decH s).ino, .int .u64 (decH s).gen], .int .i64 (decE s)]) ∧ Below w.heap.size w w' := by
  by_cases h28 : s.size = 28
  · have hd : decH s = ⟨ofS (s.extract 0 4), ofS (s.extract 4 12), ofS (s.extract 12 20), ofS (s.extract 20 28)⟩ := by unfold decH; rw [if_pos h28]
    have he : decE s = 0 := by unfold decE; rw [if_pos h28]
    rw [hd, he]
    have hb : ((s.size : Int) != 28) = false := by rw [h28]; rfl
    have h4 : ofS (s.extract 0 4) < 4294967296 := by
      unfold ofS
      split
      · have h1 := ofLe_lt (s.extract 0 4).data.toList
        have hl : (s.extract 0 4).data.toList.length = 4 := by
          have : (s.extract 0 4).data.toList.length = (s.extract 0 4).size := by rw [Array.length_toList]; rfl
          rw [this, ByteArray.size_extract]; omega
        rw [hl] at h1
        have : (256 : Nat) ^ 4 = 4294967296 := by decide
        omega
      · omega
    have h4i : IntKind.u32.wrap (ofS (s.extract 0 4) : Int) = (ofS (s.extract 0 4) : Int) := by rw [u32_wrap]; omega
    have H4 := Lib.hid h4i
    have N := Lib.hid (fun R p n hn w h => hnumber R s p n hn hs w h)
    have hz28 := Lib.hid h28
    clear hd he h28 h4 h4i
    go_enter Try.func101, Try.ntmps101
    go_wp2_with fail
    have b0 : Blk ((w.alloc (.cells #[.int .u32 0, .int .u64 0, .int .u64 0, .int .u64 0] 25)).alloc (.cells #[.string s, .int .i64 0] 171)) (w.heap.size + 1) 171 [.string s, .int .i64 (0 : Nat)] := by
      have := Blk.new (w.alloc (.cells #[.int .u32 0, .int .u64 0, .int .u64 0, .int .u64 0] 25)) 171 [.string s, .int .i64 0]
      simpa using this
    have r0 : Blk ((w.alloc (.cells #[.int .u32 0, .int .u64 0, .int .u64 0, .int .u64 0] 25)).alloc (.cells #[.string s, .int .i64 0] 171)) w.heap.size 25 [.int .u32 0, .int .u64 0, .int .u64 0, .int .u64 0] := (Blk.new w 25 [.int .u32 0, .int .u64 0, .int .u64 0, .int .u64 0]).alloc _
    have k0 : Keeps (fun k => w.heap.size ≤ k) w ((w.alloc (.cells #[.int .u32 0, .int .u64 0, .int .u64 0, .int .u64 0] 25)).alloc (.cells #[.string s, .int .i64 0] 171)) := ((Keeps.refl _ _).alloc _).alloc _
    refine (N.out _ 0 4 (by rw [hz28.out]; omega) _ b0).mono ?_
    rintro e w1 ⟨rfl, q1, k1⟩
    have R1 := Lib.hid (r0.kept k1 (by omega))
    have K1 := Lib.hid (k0.trans k1 (fun k _ h => by omega))
    have Q1 := Lib.hid q1
    clear q1 k1 b0 r0 k0
    go_wp2_with fail
    refine (N.out _ (0 + 4) 8 (by rw [hz28.out]; omega) _ Q1.out).mono ?_
    rintro e w2 ⟨rfl, q2, k2⟩
    have R2 := Lib.hid (R1.out.kept k2 (by omega))
    have K2 := Lib.hid (K1.out.trans k2 (fun k _ h => by omega))
    have Q2 := Lib.hid q2
    clear q2 k2 Q1 R1 K1
    go_wp2_with fail
    refine (N.out _ (0 + 4 + 8) 8 (by rw [hz28.out]; omega) _ Q2.out).mono ?_
    rintro e w3 ⟨rfl, q3, k3⟩
    have R3 := Lib.hid (R2.out.kept k3 (by omega))
    have K3 := Lib.hid (K2.out.trans k3 (fun k _ h => by omega))
    have Q3 := Lib.hid q3
    clear q3 k3 Q2 R2 K2
    go_wp2_with fail
    refine (N.out _ (0 + 4 + 8 + 8) 8 (by rw [hz28.out]; omega) _ Q3.out).mono ?_
    rintro e w4 ⟨rfl, q4, k4⟩
    have r4 := R3.out.kept k4 (by omega)
    have K4 := Lib.hid (K3.out.trans k4 (fun k _ h => by omega))
    have c0 := r4.cell 0 rfl
    have c1 := r4.cell 1 rfl
    have c2 := r4.cell 2 rfl
    have c3 := r4.cell 3 rfl
    have f0 := r4.frozen 0
    have f1 := r4.frozen 1
    have f2 := r4.frozen 2
    have f3 := r4.frozen 3
    have R4 := Lib.hid r4
    clear q4 k4 Q3 R3 K3 r4
    go_wp2_with fail
    refine bodyPost_ret (v := .tuple #[.agg #[.int .u32 (ofS (s.extract 0 4)), .int .u64 (ofS (s.extract 4 12)), .int .u64 (ofS (s.extract 12 20)), .int .u64 (ofS (s.extract 20 28))], .int .i64 0]) ?_ rfl ⟨rfl, ?_⟩
    · have h4 := H4.out
      rw [u32_wrap] at h4
      simp [results, Try.results101, go_sem, c0, c1, c2, c3, h4]
    · refine Keeps.below (S := fun k => w.heap.size ≤ k) ?_ (Nat.le_refl _) (fun k hk h => by omega)
      exact (((K4.out.setCell (fun h => by simp at h) _).setCell (fun h => by simp at h) _).setCell (fun h => by simp at h) _).setCell (fun h => by simp at h) _
  · have hd : decH s = ⟨0, 0, 0, 0⟩ := by unfold decH; rw [if_neg h28]
    have he : decE s = 2100 := by unfold decE; rw [if_neg h28]
    rw [hd, he]
    have hb : ((s.size : Int) != 28) = true := by rw [bne_iff_ne]; omega
    clear hd he h28
    go_enter Try.func101, Try.ntmps101
    go_wp2_with fail
    refine bodyPost_ret (v := .tuple #[.agg #[.int .u32 0, .int .u64 0, .int .u64 0, .int .u64 0], .int .i64 2100]) ?_ rfl ⟨rfl, ?_⟩
    · simp [results, Try.results101, go_sem]
    · exact (Below.refl _ _).alloc (Nat.le_refl _) _

theorem ofS_lt4 (s : ByteArray) (h : s.size ≤ 4) : ofS s < 4294967296 := by
  unfold ofS
  split
  · have h1 := ofLe_lt s.data.toList
    have hl : s.data.toList.length = s.size := by rw [Array.length_toList]; rfl
    have h2 : (256 : Nat) ^ s.data.toList.length ≤ 256 ^ 4 := Nat.pow_le_pow_right (by decide) (by omega)
    have h4 : (256 : Nat) ^ 4 = 4294967296 := by decide
    omega
  · omega
set_option maxHeartbeats 4000000 in
theorem handle_r (R b o : Nat) (t : TypeId) (cs : List Value) (x0 x1 x2 x3 : Value) (ρ : Rd) (hs : ρ.s.size ≤ 281474976710656) (w : World) (h : RdS w R ρ) (hb : Blk w b t cs)
    (h0 : cs[o]? = some x0) (h1 : cs[o + 1]? = some x1) (h2 : cs[o + 2]? = some x2) (h3 : cs[o + 3]? = some x3) (hne : b ≠ R) :
    Calls Try.prog 97 #[.pointer (some ⟨R, 0, none⟩), .pointer (some ⟨b, o, none⟩)] w fun r w' => r = .returned (.tuple #[]) ∧ RdS w' R (ρ.left 28) ∧ Blk w' b t ((((cs.set o (.int .u32 (decH (ρ.took 28)).ex)).set (o + 1) (.int .u64 (decH (ρ.took 28)).snap)).set (o + 2) (.int .u64 (decH (ρ.took 28)).ino)).set (o + 3) (.int .u64 (decH (ρ.took 28)).gen)) ∧ Keeps (fun k => k = R ∨ k = b) w w' := by
  have C := Lib.hid (take_r R ρ 28 (by omega) hs w h)
  have ht := Rd.took_size ρ 28
  have C2 := Lib.hid (hdecode (ρ.took 28) (by omega))
  have H := Lib.hid hb
  have HO0 := Lib.hid h0; have HO1 := Lib.hid h1; have HO2 := Lib.hid h2; have HO3 := Lib.hid h3
  have hne' : R ≠ b := fun e => hne e.symm
  clear hb h h0 h1 h2 h3 ht
  generalize decH (ρ.took 28) = d at *
  generalize decE (ρ.took 28) = de at *
  go_enter Try.func97, Try.ntmps97
  go_wp2_with fail
  refine C.out.mono ?_
  rintro e w1 ⟨rfl, q1, k1⟩
  have b1 : Blk w1 b t cs := H.out.kept k1 hne
  have Q1 := Lib.hid q1
  have K1 := Lib.hid k1
  have B1 := Lib.hid b1
  clear q1 k1 b1 C
  go_wp2_with fail
  refine (C2.out _).mono ?_
  rintro e w2 ⟨rfl, hb2⟩
  have b2 : Blk w2 b t cs := B1.out.below hb2
  have d0 := b2.cell o HO0.out
  have d1 := b2.cell (o + 1) HO1.out
  have d2 := b2.cell (o + 2) HO2.out
  have d3 := b2.cell (o + 3) HO3.out
  have f0 := b2.frozen o
  have f1 := b2.frozen (o + 1)
  have f2 := b2.frozen (o + 2)
  have f3 := b2.frozen (o + 3)
  have Q2 := Lib.hid (Q1.out.below hb2)
  have K2 := Lib.hid (K1.out.trans (S' := fun k => k = R) (Keeps.of_below_all hb2) (fun _ _ h => h))
  have B2 := Lib.hid b2
  clear b2 hb2 Q1 K1 B1
  go_wp2_with fail
  go_end0
  refine ⟨rfl, ?_, ?_, ?_⟩
  · exact Blk.other (a := ⟨b, o + 3, none⟩) (Blk.other (a := ⟨b, o + 2, none⟩) (Blk.other (a := ⟨b, o + 1, none⟩) (Blk.other (a := ⟨b, o, none⟩) Q2.out hne' _) hne' _) hne' _) hne' _
  · exact (((B2.out.set o _).set (o + 1) _).set (o + 2) _).set (o + 3) _
  · have K := K2.out.mono (S' := fun k => k = R ∨ k = b) (fun _ _ h => .inl h)
    exact (((K.setCell (fun _ => .inr rfl) _).setCell (fun _ => .inr rfl) _).setCell (fun _ => .inr rfl) _).setCell (fun _ => .inr rfl) _

/-! ### strings.Trim at the byte 0 -/

/-- All bytes are 0. -/
def Zs (s : ByteArray) : Prop := ∀ b ∈ s.data.toList, b = 0

theorem trimLeft_z (d : Nat) : ∀ (s : ByteArray) (k : Nat), s.size = d → s.size ≤ 281474976710656 → d < k → ∃ r, PtrimLeftByte.strings_trimLeftByte.l0 k s 0 = some r ∧ (Zs s ↔ r.size = 0) := by
  induction d with
  | zero =>
    intro s k hd hs hk
    obtain ⟨k, rfl⟩ : ∃ m, k = m + 1 := ⟨k - 1, by omega⟩
    refine ⟨s, ?_, ?_⟩
    · simp only [PtrimLeftByte.strings_trimLeftByte.l0]; rw [if_neg (by omega)]
    · refine ⟨fun _ => hd, fun _ b hb => ?_⟩
      have : s.data.toList = [] := List.eq_nil_of_length_eq_zero (by rw [Array.length_toList]; exact hd)
      rw [this] at hb; cases hb
  | succ d ih =>
    intro s k hd hs hk
    obtain ⟨k, rfl⟩ : ∃ m, k = m + 1 := ⟨k - 1, by omega⟩
    have h0 : 0 < s.size := by omega
    have hb : bt s 0 = ((s[0]'h0).toNat : Int) := by
      unfold bt
      rw [dif_pos (show (0 : Int).toNat < s.size by omega)]
      rfl
    have hc : s.data.toList = s[0]'h0 :: (s.extract 1 s.size).data.toList := by
      rw [Lib.extract_data, List.take_of_length_le (by rw [List.length_drop, Array.length_toList]; exact Nat.le_refl _)]
      have := List.drop_eq_getElem_cons (l := s.data.toList) (i := 0) (by rw [Array.length_toList]; exact h0)
      rw [List.drop_zero] at this
      exact this
    by_cases hz : s[0]'h0 = 0
    · obtain ⟨r, h1, h2⟩ := ih (s.extract 1 s.size) k (by rw [ByteArray.size_extract]; omega) (by rw [ByteArray.size_extract]; omega) (by omega)
      refine ⟨r, ?_, ?_⟩
      · simp only [PtrimLeftByte.strings_trimLeftByte.l0]
        rw [if_pos (by omega), if_pos (by omega), hb, if_pos (by rw [hz]; rfl), if_pos (by omega)]
        exact h1
      · rw [← h2]
        unfold Zs
        rw [hc]
        simp [hz]
    · have hn : (s[0]'h0).toNat ≠ 0 := fun h => hz (UInt8.toNat_inj.1 h)
      refine ⟨s, ?_, ?_⟩
      · simp only [PtrimLeftByte.strings_trimLeftByte.l0]
        rw [if_pos (by omega), if_pos (by omega), hb, if_neg (by omega)]
      · refine ⟨fun h => absurd (h (s[0]'h0) (by rw [hc]; exact List.mem_cons_self)) hz, fun h => by omega⟩

theorem trimRight_z (d : Nat) : ∀ (s : ByteArray) (k : Nat), s.size = d → s.size ≤ 281474976710656 → d < k → ∃ r, PtrimRightByte.strings_trimRightByte.l0 k s 0 = some r ∧ (Zs s ↔ Zs r) ∧ r.size ≤ s.size := by
  induction d with
  | zero =>
    intro s k hd hs hk
    obtain ⟨k, rfl⟩ : ∃ m, k = m + 1 := ⟨k - 1, by omega⟩
    exact ⟨s, by simp only [PtrimRightByte.strings_trimRightByte.l0]; rw [if_neg (by omega)], Iff.rfl, Nat.le_refl _⟩
  | succ d ih =>
    intro s k hd hs hk
    obtain ⟨k, rfl⟩ : ∃ m, k = m + 1 := ⟨k - 1, by omega⟩
    have hdl : d < s.size := by omega
    have hw : wrap64 ((s.size : Int) - 1) = (d : Int) := by unfold wrap64; omega
    have hb : bt s (d : Int) = ((s[d]'hdl).toNat : Int) := by
      unfold bt
      rw [dif_pos (show (d : Int).toNat < s.size by omega)]
      rfl
    by_cases hz : s[d]'hdl = 0
    · obtain ⟨r, h1, h2, h3⟩ := ih (s.extract 0 d) k (by rw [ByteArray.size_extract]; omega) (by rw [ByteArray.size_extract]; omega) (by omega)
      refine ⟨r, ?_, ?_, by rw [ByteArray.size_extract] at h3; omega⟩
      · simp only [PtrimRightByte.strings_trimRightByte.l0]
        rw [if_pos (by omega), hw, if_pos (by omega), if_pos (by omega), hb, if_pos (by rw [hz]; rfl), if_pos (by omega), Int.toNat_natCast]
        exact h1
      · rw [← h2]
        unfold Zs
        have hc : s.data.toList = (s.extract 0 d).data.toList ++ [s[d]'hdl] := by
          rw [Lib.extract_data, List.drop_zero, Nat.sub_zero]
          have hl : s.data.toList.length = d + 1 := by rw [Array.length_toList]; exact hd
          have := List.take_succ_eq_append_getElem (l := s.data.toList) (i := d) (by omega)
          rw [List.take_of_length_le (by omega)] at this
          exact this
        rw [hc]
        simp [hz, or_imp, forall_and]
    · have hn : (s[d]'hdl).toNat ≠ 0 := fun h => hz (UInt8.toNat_inj.1 h)
      refine ⟨s, ?_, Iff.rfl, Nat.le_refl _⟩
      simp only [PtrimRightByte.strings_trimRightByte.l0]
      rw [if_pos (by omega), hw, if_pos (by omega), if_pos (by omega), hb, if_neg (by omega)]

structure TrimPost (s : ByteArray) (w : World) (e : Ending) (w' : World) : Prop where
  ex : ∃ r : ByteArray, e = .returned (.string r) ∧ (Zs s ↔ r.size = 0)
  drew : ∃ n, w' = w.drewN n

set_option maxHeartbeats 4000000 in
set_option maxRecDepth 100000 in
theorem trim_any (s : ByteArray) (hs : s.size ≤ 281474976710656) (w : World) : Calls Try.prog 103 #[.string s, .string ⟨#[0]⟩] w (TrimPost s w) := by
  by_cases h0 : s.toList = []
  · have h0a : (s.toList == ([] : List UInt8)) = true := by rw [h0]; rfl
    have h0b : s.toList.isEmpty = true := by rw [h0]; rfl
    have hz : s.size = 0 := by
      rw [Lib.toList_data] at h0
      have := congrArg List.length h0
      rw [Array.length_toList] at this
      exact this
    have hZ : Zs s := by
      intro b hb
      rw [Lib.toList_data] at h0
      rw [h0] at hb; cases hb
    have HZ := Lib.hid (show Zs s ↔ s.size = 0 from ⟨fun _ => hz, fun _ => hZ⟩)
    clear h0 hz hZ
    go_enter Try.func103, Try.ntmps103
    go_wp2_with fail
    go_ret
    exact ⟨⟨s, rfl, HZ.out⟩, 0, rfl⟩
  · have h0a : (s.toList == ([] : List UInt8)) = false := beq_eq_false_iff_ne.2 h0
    have h0b : s.toList.isEmpty = false := by cases h : s.toList with | nil => exact absurd h h0 | cons _ _ => rfl
    obtain ⟨r, h1, h2, h3⟩ := trimRight_z s.size s (s.size + 1) rfl hs (by omega)
    obtain ⟨q, h4, h5⟩ := trimLeft_z r.size r (r.size + 1) rfl (by omega) (by omega)
    have c1 : ∀ w, Calls Try.prog 106 #[.string s, .int .u8 0] w fun e w' => e = .returned (.string r) ∧ ∃ n, w' = w.drewN n := fun w => (PtrimRightByte.strings_trimRightByte.calls _ _ _ _ w h1).mono fun _ _ ⟨h1, h2⟩ => ⟨h1, h2.out⟩
    have c2 : ∀ w, Calls Try.prog 105 #[.string r, .int .u8 0] w fun e w' => e = .returned (.string q) ∧ ∃ n, w' = w.drewN n := fun w => (PtrimLeftByte.strings_trimLeftByte.calls _ _ _ _ w h4).mono fun _ _ ⟨h1, h2⟩ => ⟨h1, h2.out⟩
    have HZ := Lib.hid (h2.trans h5)
    have C1 := Lib.hid c1
    have C2 := Lib.hid c2
    clear h0 h1 h2 h3 h4 h5 c1 c2
    go_enter Try.func103, Try.ntmps103
    go_wp2_with fail
    go_quiet ((first | (go_at_call 106; exact Calls.quiet_of (C1.out _)) | (go_at_call 105; exact Calls.quiet_of (C2.out _))))
    go_wp2_with fail
    go_ret
    exact ⟨⟨q, rfl, HZ.out⟩, _, rfl⟩

/-! ### text -/

def allZ (s : ByteArray) : Bool := s.data.toList.all (fun b => b == 0)
theorem allZ_iff (s : ByteArray) : allZ s = true ↔ Zs s := by
  unfold allZ Zs
  rw [List.all_eq_true]
  exact ⟨fun h b hb => by simpa using h b hb, fun h b hb => by simpa using h b hb⟩

theorem set_same {α : Type} (l : List α) (i : Nat) (v : α) (h : l[i]? = some v) : l.set i v = l := by
  apply List.ext_getElem?
  intro j
  rw [List.getElem?_set]
  split
  · rename_i e
    subst e
    rw [h, if_pos (List.getElem?_eq_some_iff.1 h).1]
  · rfl

/-- What text reads: the text, and what is left. -/
def Rd.textS (ρ : Rd) (old : ByteArray) : ByteArray := if 4096 < ρ.num 4 then old else (ρ.left 4).took (ρ.num 4)
def Rd.textR (ρ : Rd) : Rd := if 4096 < ρ.num 4 then (ρ.left 4).fail else
  if allZ (((ρ.left 4).left (ρ.num 4)).took (padN (ρ.num 4))) = true then ((ρ.left 4).left (ρ.num 4)).left (padN (ρ.num 4)) else (((ρ.left 4).left (ρ.num 4)).left (padN (ρ.num 4))).fail

set_option maxHeartbeats 8000000 in
set_option maxRecDepth 100000 in
theorem text_r (R b o : Nat) (t : TypeId) (cs : List Value) (old : ByteArray) (ρ : Rd) (hs : ρ.s.size ≤ 281474976710656) (w : World) (h : RdS w R ρ) (hb : Blk w b t cs)
    (ho : cs[o]? = some (.string old)) (hne : b ≠ R) :
    Calls Try.prog 100 #[.pointer (some ⟨R, 0, none⟩), .pointer (some ⟨b, o, none⟩)] w fun r w' => r = .returned (.tuple #[]) ∧ RdS w' R ρ.textR ∧ Blk w' b t (cs.set o (.string (ρ.textS old))) ∧ Keeps (fun k => k = R ∨ k = b) w w' := by
  have hR := h.lt
  have hbl := hb.lt
  have y0 : Blk (w.alloc (.cells #[.int .u64 0] 23)) w.heap.size 23 [.int .u64 0] := Blk.new w _ [.int .u64 0]
  have C := Lib.hid (number_r R w.heap.size 0 23 [.int .u64 0] 0 ρ 4 (by omega) hs (w.alloc (.cells #[.int .u64 0] 23)) (h.alloc _) y0 rfl (by omega))
  have HB := Lib.hid hb
  have HO := Lib.hid ho
  have hn64 := ofS_lt (ρ.took 4)
  have hls := ρ.left_size 4
  clear h hb ho y0
  have K0 := Lib.hid ((Keeps.refl (fun k => k = R ∨ k = b) w).alloc (.cells #[.int .u64 0] 23))
  go_enter Try.func100, Try.ntmps100
  go_wp2_with fail
  refine C.out.mono ?_
  rintro e w1 ⟨rfl, q1, y1, k1⟩
  have B1 := Lib.hid ((HB.out.alloc (.cells #[.int .u64 0] 23)).kept k1 (by omega))
  have K1 := Lib.hid (K0.out.trans k1 (fun k hk h => by rcases h with h | h; exact .inl h; omega))
  have Q1 := Lib.hid q1
  have Y1 := Lib.hid y1
  have cy1 : w1.cell? ⟨w.heap.size, 0, none⟩ = some (.int .u64 (ρ.num 4 : Int)) := y1.cell 0 rfl
  clear q1 y1 k1 C K0
  generalize hN : ρ.num 4 = N at *
  have hN64 : N < 18446744073709551616 := by rw [← hN]; exact hn64
  by_cases hbig : 4096 < N
  · have hbz : (4096 : Int) < (N : Int) := by omega
    have hT : ρ.textS old = old := by unfold Rd.textS; rw [hN, if_pos hbig]
    have hTR : ρ.textR = (ρ.left 4).fail := by unfold Rd.textR; rw [hN, if_pos hbig]
    have HT := Lib.hid hT
    have HTR := Lib.hid hTR
    have CF := Lib.hid (fail_r R (ρ.left 4) w1 Q1.out)
    clear hT hTR hN hn64 hbig
    go_wp2_with fail
    refine CF.out.mono ?_
    rintro e w2 ⟨rfl, q2, k2⟩
    have Q2 := Lib.hid q2
    have K2 := Lib.hid k2
    clear q2 k2
    go_wp2_with fail
    refine bodyPost_ret (results_none (by rfl) _ _ _) rfl ⟨rfl, by rw [HTR.out]; exact Q2.out, ?_, K1.out.trans K2.out (fun _ _ h => .inl h)⟩
    rw [HT.out, set_same _ _ _ HO.out]
    exact B1.out.kept K2.out hne
  · have hle : (N : Int) ≤ 4096 := by omega
    have hNi : ((N : Int)).toNat = N := by omega
    have hT : ρ.textS old = (ρ.left 4).took N := by unfold Rd.textS; rw [hN, if_neg hbig]
    have hTR : ρ.textR = if allZ (((ρ.left 4).left N).took (padN N)) = true then ((ρ.left 4).left N).left (padN N) else (((ρ.left 4).left N).left (padN N)).fail := by unfold Rd.textR; rw [hN, if_neg hbig]
    have HT := Lib.hid hT
    have HTR := Lib.hid hTR
    have hls2 := (ρ.left 4).left_size N
    have hp4 : padN N ≤ 4 := by unfold padN; omega
    have CT := Lib.hid (take_r R (ρ.left 4) N (by omega) (by omega) w1 Q1.out)
    have htk := Rd.took_size ((ρ.left 4).left N) (padN N)
    have CTr := Lib.hid (trim_any (((ρ.left 4).left N).took (padN N)) (by omega))
    have CP := Lib.hid (pad_any N (by omega))
    clear hT hTR hN hn64 hbig htk
    have CT2 := Lib.hid (fun w h => take_r R ((ρ.left 4).left N) (padN N) (by omega) (by omega) w h)
    have CF := Lib.hid (fun w h => fail_r R (((ρ.left 4).left N).left (padN N)) w h)
    generalize padN N = p at *
    go_wp2_with fail
    refine CT.out.mono ?_
    rintro e w2 ⟨rfl, q2, k2⟩
    have b2 := B1.out.kept k2 hne
    have Q2 := Lib.hid q2
    have K2 := Lib.hid (K1.out.trans k2 (fun _ _ h => .inl h))
    have y2 := Y1.out.kept k2 (by omega)
    have cy2 : w2.cell? ⟨w.heap.size, 0, none⟩ = some (.int .u64 (N : Int)) := y2.cell 0 rfl
    have cb2 := b2.cell o HO.out
    have fb2 := b2.frozen o
    have B2 := Lib.hid b2
    clear q2 k2 y2 b2 CT cy1 Q1 B1 K1 Y1
    go_wp2_with fail
    refine (CP.out _).mono ?_
    rintro e w3 ⟨rfl, rfl⟩
    have q3 : RdS (w2.setCell ⟨b, o, none⟩ (.string ((ρ.left 4).took N))) R ((ρ.left 4).left N) := Blk.other (a := ⟨b, o, none⟩) Q2.out (fun e => hne e.symm) _
    have b3 := B2.out.set o (.string ((ρ.left 4).took N))
    have k3 := K2.out.setCell (a := ⟨b, o, none⟩) (fun _ => .inr rfl) (.string ((ρ.left 4).took N))
    have CT3 := Lib.hid (CT2.out _ q3)
    have B3 := Lib.hid b3
    have K3 := Lib.hid k3
    clear q3 b3 k3 Q2 B2 K2 CT2
    go_wp2_with fail
    refine CT3.out.mono ?_
    rintro e w4 ⟨rfl, q4, k4⟩
    have Q4 := Lib.hid q4
    have B4 := Lib.hid (B3.out.kept k4 hne)
    have K4 := Lib.hid (K3.out.trans k4 (fun _ _ h => .inl h))
    clear q4 k4 B3 K3 CT3
    go_wp2_with fail
    refine (CTr.out _).mono ?_
    rintro e w5 ⟨⟨r, rfl, hz⟩, n5, hw5⟩
    have Q5 : RdS w5 R (((ρ.left 4).left N).left p) := by rw [hw5]; exact Q4.out.drewN n5
    have B5 : Blk w5 b t (cs.set o (.string ((ρ.left 4).took N))) := by rw [hw5]; exact B4.out.drewN n5
    have K5 : Keeps (fun k => k = R ∨ k = b) w w5 := by rw [hw5]; exact K4.out.drewN n5
    have CF5 := Lib.hid (CF.out w5 Q5)
    have Q5 := Lib.hid Q5
    have B5 := Lib.hid B5
    have K5 := Lib.hid K5
    clear hw5 Q4 B4 K4 CF
    by_cases hzz : r.size = 0
    · have hnil : r.toList = [] := by
        rw [Lib.toList_data]
        exact List.eq_nil_of_length_eq_zero (by rw [Array.length_toList]; exact hzz)
      have hr : (r.toList == ([] : List UInt8)) = true := by rw [hnil]; rfl
      have hr2 : r.toList.isEmpty = true := by rw [hnil]; rfl
      have hr3 : (r.toList != ([] : List UInt8)) = false := by rw [hnil]; rfl
      have hall : allZ (((ρ.left 4).left N).took p) = true := (allZ_iff _).2 (hz.2 hzz)
      have HA := Lib.hid hall
      clear hz hzz hall hnil
      go_wp2_with fail
      go_end0
      exact ⟨rfl, by rw [HTR.out, if_pos HA.out]; exact Q5.out, by rw [HT.out]; exact B5.out, K5.out⟩
    · have hne2 : r.toList ≠ [] := by
        rw [Lib.toList_data]
        intro h
        apply hzz
        have := congrArg List.length h
        rw [Array.length_toList] at this
        exact this
      have hr : (r.toList == ([] : List UInt8)) = false := beq_eq_false_iff_ne.2 hne2
      have hr2 : r.toList.isEmpty = false := by cases h : r.toList with | nil => exact absurd h hne2 | cons _ _ => rfl
      have hr3 : (r.toList != ([] : List UInt8)) = true := bne_iff_ne.2 hne2
      have hall : ¬ allZ (((ρ.left 4).left N).took p) = true := fun h => hzz (hz.1 ((allZ_iff _).1 h))
      have HA := Lib.hid hall
      clear hz hzz hall hne2
      go_wp2_with fail
      refine CF5.out.mono ?_
      rintro e w6 ⟨rfl, q6, k6⟩
      have Q6 := Lib.hid q6
      have K6 := Lib.hid k6
      clear q6 k6
      go_wp2_with fail
      go_end0
      exact ⟨rfl, by rw [HTR.out, if_neg HA.out]; exact Q6.out, by rw [HT.out]; exact B5.out.kept K6.out hne, K5.out.trans K6.out (fun _ _ h => .inl h)⟩

end Go.Proofs.Ytibcadfpengacaa

-- FieldsR
set_option linter.unusedVariables false
set_option linter.unusedSimpArgs false
namespace Go.Proofs.Ytibcadfpengacaa
open Go.RowKit Go.Lib Go.Proofs.YtibcadfpengacaaW.PrintWords Go.Proofs.YtibcadfpengacaaW.PrintMore Go.Proofs.YtibcadfpengacaaW.PrintLast

/-- What a read leaves: the reader, the block that is written. -/
structure RPost (w : World) (R b : Nat) (t : TypeId) (cs : List Value) (ρ : Rd) (w' : World) : Prop where
  rd : RdS w' R ρ
  m : Blk w' b t cs
  keep : Keeps (fun k => k = R ∨ k = b) w w'

theorem Rd.num_lt1 (ρ : Rd) : ρ.num 1 < 256 := by
  unfold Rd.num ofS
  have h := Rd.took_size ρ 1
  split
  · have h1 := ofLe_lt (ρ.took 1).data.toList
    have h2 : (ρ.took 1).data.toList.length ≤ 1 := by rw [Array.length_toList]; exact h
    have : 256 ^ (ρ.took 1).data.toList.length ≤ 256 ^ 1 := Nat.pow_le_pow_right (by decide) h2
    omega
  · omega
theorem Rd.num_lt4 (ρ : Rd) : ρ.num 4 < 4294967296 := ofS_lt4 _ (Rd.took_size ρ 4)
set_option maxHeartbeats 4000000 in
set_option maxRecDepth 100000 in
theorem small_r (R b o : Nat) (t : TypeId) (cs : List Value) (v : Int) (ρ : Rd) (hs : ρ.s.size ≤ 281474976710656) (hv : I64 v) (w : World) (h : RdS w R ρ) (hb : Blk w b t cs) (ho : cs[o]? = some (.int .i64 v)) (hne : b ≠ R) :
    Calls Try.prog 47 #[.iface 90 (.pointer (some ⟨R, 0, none⟩)), .pointer (some ⟨b, o, none⟩), .int .i64 1] w fun r w' => r = .returned (.tuple #[]) ∧ RPost w R b t (cs.set o (.int .i64 (ρ.num 1))) (ρ.left 1) w' := by
  have hu : IntKind.u64.wrap v = v % 18446744073709551616 := u64_wrap v
  have hn1 := Rd.num_lt1 ρ
  have hc : w.cell? ⟨b, o, none⟩ = some (.int .i64 v) := hb.cell o ho
  have hRl := h.lt
  have hbl := hb.lt
  have y0 := Blk.new w 23 [.int .u64 (IntKind.u64.wrap v)]
  have C := Lib.hid (number_r R w.heap.size 0 23 [.int .u64 (IntKind.u64.wrap v)] (IntKind.u64.wrap v) ρ 1 (by omega) hs _ (h.alloc _) y0 rfl (by omega))
  have HB := Lib.hid hb
  have hm := rm_number ⟨R, 0, none⟩
  clear h hb y0 hu hv hs
  go_enter Try.func47, Try.ntmps47
  go_wp2_with fail
  refine C.out.mono ?_
  rintro e w2 ⟨rfl, q1, q2, q3⟩
  have cy : w2.cell? ⟨w.heap.size, 0, none⟩ = some (.int .u64 (ρ.num 1 : Int)) := q2.cell 0 rfl
  have B2 := Lib.hid ((HB.out.alloc (.cells #[.int .u64 (IntKind.u64.wrap v)] 23)).kept q3 (by rintro (e | e); exact hne e; omega))
  have hcM : w2.cell? ⟨b, o, none⟩ = some (.int .i64 v) := B2.out.cell o ho
  have hfM : w2.frozen? ⟨b, o, none⟩ = false := B2.out.frozen o
  have Q1 := Lib.hid q1
  have K := Lib.hid (((Keeps.refl (fun k => k = R ∨ k = b) w).alloc (.cells #[.int .u64 (IntKind.u64.wrap v)] 23)).trans q3 (by rintro k hk (e | e); exact .inl e; omega))
  clear q1 q2 q3 C HB hc
  have hw : wrap64 (ρ.num 1 : Int) = (ρ.num 1 : Int) := by unfold wrap64; omega
  have Hn := Lib.hid hn1
  clear hn1
  go_wp2_with fail
  go_end0
  exact ⟨rfl, Q1.out.other hne.symm _, B2.out.set o _, K.out.setCell (fun _ => .inr rfl) _⟩

set_option maxHeartbeats 4000000 in
set_option maxRecDepth 100000 in
theorem four_r (R b o : Nat) (t : TypeId) (cs : List Value) (v : Int) (ρ : Rd) (hs : ρ.s.size ≤ 281474976710656) (hv : U32 v) (w : World) (h : RdS w R ρ) (hb : Blk w b t cs) (ho : cs[o]? = some (.int .u32 v)) (hne : b ≠ R) :
    Calls Try.prog 48 #[.iface 90 (.pointer (some ⟨R, 0, none⟩)), .pointer (some ⟨b, o, none⟩)] w fun r w' => r = .returned (.tuple #[]) ∧ RPost w R b t (cs.set o (.int .u32 (ρ.num 4))) (ρ.left 4) w' := by
  have hn1 := Rd.num_lt4 ρ
  have hc : w.cell? ⟨b, o, none⟩ = some (.int .u32 v) := hb.cell o ho
  have hRl := h.lt
  have hbl := hb.lt
  have hu : IntKind.u64.wrap v = v := by rw [u64_wrap]; have := hv.1; have := hv.2; omega
  have hb32 : IntKind.u32.wrap (ρ.num 4 : Int) = (ρ.num 4 : Int) := by rw [u32_wrap]; omega
  have y0 := Blk.new w 23 [.int .u64 v]
  have C := Lib.hid (number_r R w.heap.size 0 23 [.int .u64 v] v ρ 4 (by omega) hs _ (h.alloc _) y0 rfl (by omega))
  have HB := Lib.hid hb
  have hm := rm_number ⟨R, 0, none⟩
  clear h hb y0 hv hs hn1
  go_enter Try.func48, Try.ntmps48
  go_wp2_with fail
  refine C.out.mono ?_
  rintro e w2 ⟨rfl, q1, q2, q3⟩
  have cy : w2.cell? ⟨w.heap.size, 0, none⟩ = some (.int .u64 (ρ.num 4 : Int)) := q2.cell 0 rfl
  have B2 := Lib.hid ((HB.out.alloc (.cells #[.int .u64 v] 23)).kept q3 (by rintro (e | e); exact hne e; omega))
  have hcM : w2.cell? ⟨b, o, none⟩ = some (.int .u32 v) := B2.out.cell o ho
  have hfM : w2.frozen? ⟨b, o, none⟩ = false := B2.out.frozen o
  have Q1 := Lib.hid q1
  have K := Lib.hid (((Keeps.refl (fun k => k = R ∨ k = b) w).alloc (.cells #[.int .u64 v] 23)).trans q3 (by rintro k hk (e | e); exact .inl e; omega))
  clear q1 q2 q3 C HB hc
  go_wp2_with fail
  go_end0
  exact ⟨rfl, Q1.out.other hne.symm _, B2.out.set o _, K.out.setCell (fun _ => .inr rfl) _⟩

set_option maxHeartbeats 4000000 in
set_option maxRecDepth 100000 in
theorem flag_r (R b o : Nat) (t : TypeId) (cs : List Value) (ρ : Rd) (hs : ρ.s.size ≤ 281474976710656) (w : World) (h : RdS w R ρ) (hb : Blk w b t cs) (ho : cs[o]? = some (.bool false)) (hne : b ≠ R) :
    Calls Try.prog 50 #[.iface 90 (.pointer (some ⟨R, 0, none⟩)), .pointer (some ⟨b, o, none⟩)] w fun r w' => r = .returned (.bool (decide ((ρ.num 1 : Int) < 2))) ∧ RPost w R b t (cs.set o (.bool ((ρ.num 1 : Int) == 1))) (ρ.left 1) w' := by
  have hc : w.cell? ⟨b, o, none⟩ = some (.bool false) := hb.cell o ho
  have hRl := h.lt
  have hbl := hb.lt
  have y0 := Blk.new w 23 [.int .u64 0]
  have C := Lib.hid (number_r R w.heap.size 0 23 [.int .u64 0] 0 ρ 1 (by omega) hs _ (h.alloc _) y0 rfl (by omega))
  have HB := Lib.hid hb
  have hm := rm_number ⟨R, 0, none⟩
  clear h hb y0 hs
  go_enter Try.func50, Try.ntmps50
  go_wp2_with fail
  refine C.out.mono ?_
  rintro e w2 ⟨rfl, q1, q2, q3⟩
  have cy : w2.cell? ⟨w.heap.size, 0, none⟩ = some (.int .u64 (ρ.num 1 : Int)) := q2.cell 0 rfl
  have B2 := Lib.hid ((HB.out.alloc (.cells #[.int .u64 0] 23)).kept q3 (by rintro (e | e); exact hne e; omega))
  have hcM : w2.cell? ⟨b, o, none⟩ = some (.bool false) := B2.out.cell o ho
  have hfM : w2.frozen? ⟨b, o, none⟩ = false := B2.out.frozen o
  have Q1 := Lib.hid q1
  have K := Lib.hid (((Keeps.refl (fun k => k = R ∨ k = b) w).alloc (.cells #[.int .u64 0] 23)).trans q3 (by rintro k hk (e | e); exact .inl e; omega))
  clear q1 q2 q3 C HB hc
  go_wp2_with fail
  go_ret
  exact ⟨rfl, Q1.out.other hne.symm _, B2.out.set o _, K.out.setCell (fun _ => .inr rfl) _⟩

end Go.Proofs.Ytibcadfpengacaa

-- ListR
set_option linter.unusedVariables false
set_option linter.unusedSimpArgs false
namespace Go.Proofs.Ytibcadfpengacaa
open Go.RowKit Go.Lib Go.Proofs.YtibcadfpengacaaW.PrintWords Go.Proofs.YtibcadfpengacaaW.PrintMore Go.Proofs.YtibcadfpengacaaW.PrintLast

def Rd.entV (ρ : Rd) : Ent := ⟨ρ.textS ⟨#[]⟩, ρ.textR.num 8, (ρ.textR.left 8).num 8⟩
def Rd.entR (ρ : Rd) : Rd := (ρ.textR.left 8).left 8
/-- The first k entries that are read; the reader behind them. -/
def Rd.ents (ρ : Rd) : Nat → List Ent × Rd
  | 0 => ([], ρ)
  | k + 1 => ((ρ.ents k).1 ++ [(ρ.ents k).2.entV], (ρ.ents k).2.entR)
theorem Rd.fail_s (ρ : Rd) : ρ.fail.s = ρ.s := rfl
theorem Rd.textR_size (ρ : Rd) : ρ.textR.s.size ≤ ρ.s.size := by
  have h1 := Rd.left_size ρ 4
  have h2 := Rd.left_size (ρ.left 4) (ρ.num 4)
  have h3 := Rd.left_size ((ρ.left 4).left (ρ.num 4)) (padN (ρ.num 4))
  unfold Rd.textR
  generalize padN (ρ.num 4) = p at *
  generalize ρ.num 4 = n at *
  generalize ρ.left 4 = r at *
  generalize r.left n = r2 at *
  by_cases c1 : 4096 < n
  · rw [if_pos c1, Rd.fail_s]; exact h1
  · rw [if_neg c1]
    by_cases c2 : allZ (r2.took p) = true
    · rw [if_pos c2]; omega
    · rw [if_neg c2, Rd.fail_s]; omega
theorem Rd.entR_size (ρ : Rd) : ρ.entR.s.size ≤ ρ.s.size := by
  have h1 := Rd.textR_size ρ
  unfold Rd.entR
  generalize ρ.textR = r at *
  have h2 := Rd.left_size r 8
  have h3 := Rd.left_size (r.left 8) 8
  exact Nat.le_trans h3 (Nat.le_trans h2 h1)
theorem Rd.ents_succ1 (ρ : Rd) (k : Nat) : (ρ.ents (k + 1)).1 = (ρ.ents k).1 ++ [(ρ.ents k).2.entV] := by rw [Rd.ents]
theorem Rd.ents_succ2 (ρ : Rd) (k : Nat) : (ρ.ents (k + 1)).2 = (ρ.ents k).2.entR := by rw [Rd.ents]
theorem Rd.ents_size (ρ : Rd) (k : Nat) : (ρ.ents k).2.s.size ≤ ρ.s.size := by
  induction k with
  | zero => exact Nat.le_refl _
  | succ k ih =>
    rw [Rd.ents_succ2]
    have h := Rd.entR_size (ρ.ents k).2
    generalize (ρ.ents k).2.entR = r at *
    exact Nat.le_trans h ih
theorem Rd.ents_length (ρ : Rd) : ∀ k, (ρ.ents k).1.length = k
  | 0 => rfl
  | k + 1 => by
    have := Rd.ents_length ρ k
    simp [Rd.ents, this]
theorem entVs_length (es : List Ent) : (es.flatMap Ent.vs).length = es.length * 3 := by
  induction es with
  | nil => rfl
  | cons e es ih =>
    rw [List.flatMap_cons, List.length_append, ih]
    simp only [Ent.vs, List.length_cons, List.length_nil]
    omega

/-- The cells of n entries that hold nothing. -/
def zRow : Nat → List Value
  | 0 => []
  | n + 1 => .string ⟨#[]⟩ :: .int .u64 0 :: .int .u64 0 :: zRow n
theorem zRow_length : ∀ n, (zRow n).length = n * 3
  | 0 => rfl
  | n + 1 => by
    have := zRow_length n
    simp only [zRow, List.length_cons, this]
    omega
theorem zRow_get : ∀ (n j : Nat), j < n * 3 → (zRow n)[j]? = some ((#[Value.string ⟨#[]⟩, .int .u64 0, .int .u64 0] : Array Value)[j % 3]!)
  | 0, j, h => absurd h (by omega)
  | n + 1, 0, _ => rfl
  | n + 1, 1, _ => rfl
  | n + 1, 2, _ => rfl
  | n + 1, j + 3, h => by
    have := zRow_get n j (by omega)
    simp only [zRow, List.getElem?_cons_succ, this, Nat.add_mod_right]
theorem zRow_made (n : Nat) : madeCells #[Value.string ⟨#[]⟩, .int .u64 0, .int .u64 0] (n * 3) = (zRow n).toArray := by
  refine Array.ext (by rw [size_madeCells, List.size_toArray, zRow_length]) (fun j h1 h2 => ?_)
  rw [size_madeCells] at h1
  have h3 := zRow_get n j h1
  have h4 : (zRow n)[j]? = some ((zRow n).toArray[j]'h2) := by simp [List.getElem?_eq_getElem (show j < (zRow n).length by rw [zRow_length]; exact h1)]
  rw [h3] at h4
  rw [← Option.some.inj h4]
  simp [madeCells]
theorem zRow_drop : ∀ (n k : Nat), k < n → (zRow n).drop (k * 3) = .string ⟨#[]⟩ :: .int .u64 0 :: .int .u64 0 :: (zRow n).drop ((k + 1) * 3)
  | 0, k, h => absurd h (by omega)
  | n + 1, 0, _ => rfl
  | n + 1, k + 1, h => by
    have := zRow_drop n k (by omega)
    rw [show (k + 1) * 3 = k * 3 + 3 from by omega, show (k + 1 + 1) * 3 = (k + 1) * 3 + 3 from by omega]
    simpa [zRow] using this

theorem rget0 {A l : List Value} {x : Value} {i : Nat} (h : A.length = i) : (A ++ x :: l)[i]? = some x := by subst h; simp
theorem rget1 {A l : List Value} {x y : Value} {i : Nat} (h : A.length = i) : (A ++ x :: y :: l)[i + 1]? = some y := by subst h; simp [List.getElem?_append_right]
theorem rget2 {A l : List Value} {x y z : Value} {i : Nat} (h : A.length = i) : (A ++ x :: y :: z :: l)[i + 2]? = some z := by subst h; simp [List.getElem?_append_right]
theorem rset0 {A l : List Value} {x v : Value} {i : Nat} (h : A.length = i) : (A ++ x :: l).set i v = A ++ v :: l := by subst h; simp [List.set_append_right]
theorem rset1 {A l : List Value} {x y v : Value} {i : Nat} (h : A.length = i) : (A ++ x :: y :: l).set (i + 1) v = A ++ x :: v :: l := by subst h; simp [List.set_append_right]
theorem rset2 {A l : List Value} {x y z v : Value} {i : Nat} (h : A.length = i) : (A ++ x :: y :: z :: l).set (i + 2) v = A ++ x :: y :: v :: l := by subst h; simp [List.set_append_right]

def rowR (es : List Ent) (n : Nat) : List Value := es.flatMap Ent.vs ++ (zRow n).drop (es.length * 3)
theorem rowR_nil (n : Nat) : rowR [] n = zRow n := by simp [rowR]
theorem rowR_full (es : List Ent) : rowR es es.length = es.flatMap Ent.vs := by
  unfold rowR
  rw [List.drop_eq_nil_of_le (by rw [zRow_length]; exact Nat.le_refl _), List.append_nil]
theorem rowR_cells (es : List Ent) (n : Nat) (h : es.length < n) : ∃ A Z, rowR es n = A ++ .string ⟨#[]⟩ :: .int .u64 0 :: .int .u64 0 :: Z ∧ A.length = es.length * 3 ∧
    ∀ e, rowR (es ++ [e]) n = A ++ .string e.name :: .int .u64 e.ino :: .int .u64 e.cookie :: Z := by
  refine ⟨es.flatMap Ent.vs, (zRow n).drop ((es.length + 1) * 3), ?_, entVs_length es, fun e => ?_⟩
  · unfold rowR
    rw [zRow_drop n es.length h]
  · unfold rowR
    simp [Ent.vs]

/-- On the way through a list: the reader, the message's block, the entries' block. -/
structure LR (w wr : World) (R b : Nat) (t : TypeId) (cs : List Value) (L : Nat) (row : List Value) (ρ : Rd) : Prop where
  rd : RdS wr R ρ
  m : Blk wr b t cs
  l : Blk wr L 99 row
  keep : Keeps (fun k => k = R ∨ k = b) w wr
  neb : b ≠ R
  neL : L ≠ R
  neM : b ≠ L
  new : w.heap.size ≤ L
theorem LR.drew {w wr : World} {R b : Nat} {t : TypeId} {cs : List Value} {L : Nat} {row : List Value} {ρ : Rd} (h : LR w wr R b t cs L row ρ) : LR w wr.drew R b t cs L row ρ := ⟨h.rd, h.m, h.l, h.keep.drew, h.neb, h.neL, h.neM, h.new⟩
theorem LR.step {w wr w' : World} {R b : Nat} {t : TypeId} {cs : List Value} {L : Nat} {row row' : List Value} {ρ ρ' : Rd} (h : LR w wr R b t cs L row ρ) (q1 : RdS w' R ρ') (q2 : Blk w' L 99 row') (q3 : Keeps (fun k => k = R ∨ k = L) wr w') : LR w w' R b t cs L row' ρ' :=
  ⟨q1, h.m.kept q3 (by rintro (e | e); exact h.neb e; exact h.neM e), q2, h.keep.trans q3 (by rintro k hk (e | e); exact .inl e; have := h.new; omega), h.neb, h.neL, h.neM, h.new⟩

/-- What list leaves: the reader; the message's block with the list in it; the entries in a block of their own. -/
def ListPost (w : World) (R b o : Nat) (t : TypeId) (cs : List Value) (es : List Ent) (ρ' : Rd) (w' : World) : Prop :=
  ∃ L, w.heap.size ≤ L ∧ RdS w' R ρ' ∧ Blk w' b t (cs.set o (.slice (some ⟨L, 0, none⟩) es.length es.length)) ∧ Blk w' L 99 (es.flatMap Ent.vs) ∧ Keeps (fun k => k = R ∨ k = b) w w'

theorem infoEnt : (Try.prog.info? 99).map (fun i => (i.zero, i.size, i.bytes)) = some (some (.agg #[.string ⟨#[]⟩, .int .u64 0, .int .u64 0]), 3, 32) := by kernel_rfl

set_option maxHeartbeats 8000000 in
set_option maxRecDepth 100000 in
theorem list_r_some (R b o : Nat) (t : TypeId) (cs : List Value) (ρ : Rd) (hs : ρ.s.size ≤ 281474976710656) (w : World) (h : RdS w R ρ) (hb : Blk w b t cs) (ho : cs[o]? = some (.slice none 0 0)) (hne : b ≠ R)
    (h1 : 1 ≤ ρ.num 4) (h64 : ρ.num 4 ≤ 64) :
    Calls Try.prog 51 #[.iface 90 (.pointer (some ⟨R, 0, none⟩)), .pointer (some ⟨b, o, none⟩)] w fun r w' => r = .returned (.bool true) ∧ ListPost w R b o t cs ((ρ.left 4).ents (ρ.num 4)).1 ((ρ.left 4).ents (ρ.num 4)).2 w' := by
  obtain ⟨i0, hi, hz0, hz1, hz2⟩ := info_parts infoEnt
  have hc : w.cell? ⟨b, o, none⟩ = some (.slice none 0 0) := hb.cell o ho
  have hRl := h.lt
  have hbl := hb.lt
  have y0 := Blk.new w 23 [.int .u64 0]
  have C := Lib.hid (number_r R w.heap.size 0 23 [.int .u64 0] 0 ρ 4 (by omega) hs _ (h.alloc _) y0 rfl (by omega))
  have HB := Lib.hid hb
  have hs1 : (ρ.left 4).s.size ≤ 281474976710656 := Nat.le_trans (Rd.left_size ρ 4) hs
  have Hs1 := Lib.hid hs1
  have hm := rm_number ⟨R, 0, none⟩
  have hm2 := rm_text ⟨R, 0, none⟩
  have hn := rn_number ⟨R, 0, none⟩
  have hn2 := rn_text ⟨R, 0, none⟩
  have Ho := Lib.hid ho
  clear h hb y0 hs hs1
  generalize hn4 : ρ.num 4 = n at *
  generalize ρ.left 4 = ρ1 at *
  go_enter Try.func51, Try.ntmps51
  go_wp2_with fail
  refine C.out.mono ?_
  rintro e w2 ⟨rfl, q1, q2, q3⟩
  have cy : w2.cell? ⟨w.heap.size, 0, none⟩ = some (.int .u64 (n : Int)) := q2.cell 0 rfl
  have B2 := Lib.hid ((HB.out.alloc (.cells #[.int .u64 0] 23)).kept q3 (by rintro (e | e); exact hne e; omega))
  have hcM : w2.cell? ⟨b, o, none⟩ = some (.slice none 0 0) := B2.out.cell o Ho.out
  have hfM : w2.frozen? ⟨b, o, none⟩ = false := B2.out.frozen o
  have Q1 := Lib.hid q1
  have K := Lib.hid (((Keeps.refl (fun k => k = R ∨ k = b) w).alloc (.cells #[.int .u64 0] 23)).trans q3 (by rintro k hk (e | e); exact .inl e; omega))
  clear q1 q2 q3 C HB hc
  have hsz2 : w.heap.size ≤ w2.heap.size := K.out.size
  have hol : o < cs.length := (List.getElem?_eq_some_iff.1 Ho.out).1
  have Hol := Lib.hid hol
  have g64 : ¬ (64 : Int) < (n : Int) := by omega
  have g1 : (0 : Int) < (n : Int) := by omega
  have hnil := Lib.run_eql_slice_nil (P := Try.prog)
  go_wp2_with fail
  rw [run_make w2 30 99 i0 _ Try.underlying30 hi hz0 .u64 .u64 n n (by omega) (Int.le_refl _) (by rw [hz2]; omega) (by omega)]
  rw [hz1, Int.toNat_natCast, show (Value.agg #[Value.string ⟨#[]⟩, .int .u64 0, .int .u64 0]).cells = #[Value.string ⟨#[]⟩, .int .u64 0, .int .u64 0] from rfl, zRow_made n]
  simp only [Result.andThen]
  rw [Oper.upon_value]
  have b0 := B2.out.alloc (.cells (zRow n).toArray 99)
  have r0 := Q1.out.alloc (.cells (zRow n).toArray 99)
  have hcM3 := b0.cell o Ho.out
  have hfM3 := b0.frozen o
  have hb2 := B2.out.lt
  have hr2 := Q1.out.lt
  have l0 : Blk ((w2.setCell ⟨b, o, none⟩ (.slice (some ⟨w2.heap.size, 0, none⟩) n n)).alloc (.cells (zRow n).toArray 99)) w2.heap.size 99 (zRow n) := by
    have := Blk.new (w2.setCell ⟨b, o, none⟩ (.slice (some ⟨w2.heap.size, 0, none⟩) n n)) 99 (zRow n)
    rwa [show (w2.setCell ⟨b, o, none⟩ (.slice (some ⟨w2.heap.size, 0, none⟩) n n)).heap.size = w2.heap.size by simp] at this
  have F0 := Lib.hid (show LR w ((w2.setCell ⟨b, o, none⟩ (.slice (some ⟨w2.heap.size, 0, none⟩) n n)).alloc (.cells (zRow n).toArray 99)) R b t (cs.set o (.slice (some ⟨w2.heap.size, 0, none⟩) n n)) w2.heap.size (rowR (ρ1.ents 0).1 n) (ρ1.ents 0).2 from
    ⟨(Q1.out.other (by exact hne.symm) _).alloc _, (B2.out.set o _).alloc _, (by show Blk _ _ _ (rowR [] n); rw [rowR_nil]; exact l0), (K.out.setCell (fun _ => .inr rfl) _).alloc _, hne, by omega, by omega, hsz2⟩)
  clear b0 r0 l0
  generalize hL : w2.heap.size = L at *
  have hcs : (cs.set o (.slice (some ⟨L, 0, none⟩) n n))[o]? = some (.slice (some ⟨L, 0, none⟩) n n) := by rw [List.getElem?_set_self hol]
  obtain ⟨cs1, HC1⟩ : ∃ x, Hid (cs.set o (.slice (some ⟨L, 0, none⟩) n n) = x) := ⟨_, Lib.hid rfl⟩
  rw [HC1.out] at F0 hcs
  have Hcs := Lib.hid hcs
  clear hcs
  go_wp2_with fail
  clear hcM hfM hcM3 hfM3 B2 Q1 K
  go_loopg [33] n (fun gk i wr => ∃ k : Nat, k + gk = n ∧ i = .int .i64 k ∧ Hid (LR w wr R b t cs1 L (rowR (ρ1.ents k).1 n) (ρ1.ents k).2))
  case atStart => exact ⟨0, by omega, rfl, F0⟩
  case round =>
    obtain ⟨k, hk, rfl, F⟩ := hrel
    clear F0 cy
    by_cases hlt : k < n
    · have hkz : (k : Int) < (n : Int) := by omega
      obtain ⟨A, Z, e1, eA, e2⟩ := rowR_cells (ρ1.ents k).1 n (by rw [Rd.ents_length]; exact hlt)
      rw [Rd.ents_length] at eA
      have HA := Lib.hid eA
      have E2 := Lib.hid (show rowR (ρ1.ents (k + 1)).1 n = A ++ .string (ρ1.ents k).2.entV.name :: .int .u64 (ρ1.ents k).2.entV.ino :: .int .u64 (ρ1.ents k).2.entV.cookie :: Z from (by rw [Rd.ents_succ1]; exact e2 (ρ1.ents k).2.entV))
      have hR2 := Lib.hid (show (ρ1.ents (k + 1)).2 = (ρ1.ents k).2.entR from Rd.ents_succ2 ρ1 k)
      have hsk := Lib.hid (Nat.le_trans (Rd.ents_size ρ1 k) Hs1.out)
      rw [e1] at F
      clear e1 e2 eA
      generalize (ρ1.ents k).2 = ρk at *
      have cL : wr.cell? ⟨b, o, none⟩ = some (.slice (some ⟨L, 0, none⟩) n n) := F.out.m.cell o Hcs.out
      go_wp2_with fail
      go_still_tail 7, (by kernel_rfl)
      change wpList _ _ _ _ _ wr.drew
      have F := Lib.hid F.out.drew
      clear cL
      generalize wr.drew = wr at F ⊢
      go_wp2_with fail
      refine (text_r R L (k * 3) 99 _ ⟨#[]⟩ ρk hsk.out _ F.out.rd F.out.l (rget0 HA.out) F.out.neL).mono ?_
      rintro e v1 ⟨rfl, q1, q2, q3⟩
      rw [rset0 HA.out] at q2
      have G1 := Lib.hid (F.out.step q1 q2 q3)
      have hs1k := Lib.hid (Nat.le_trans (Rd.textR_size ρk) hsk.out)
      clear q1 q2 q3 F
      go_wp2_with fail
      go_still_tail 7, (by kernel_rfl)
      change wpList _ _ _ _ _ v1.drew
      have G1 := Lib.hid G1.out.drew
      generalize v1.drew = v1 at G1 ⊢
      go_wp2_with fail
      refine (number_r R L (k * 3 + 1) 99 _ 0 ρk.textR 8 (by omega) hs1k.out _ G1.out.rd G1.out.l (rget1 HA.out) G1.out.neL).mono ?_
      rintro e v2 ⟨rfl, q1, q2, q3⟩
      rw [rset1 HA.out] at q2
      have G2 := Lib.hid (G1.out.step q1 q2 q3)
      have hs2k := Lib.hid (Nat.le_trans (Rd.left_size ρk.textR 8) hs1k.out)
      clear q1 q2 q3 G1
      go_wp2_with fail
      go_still_tail 7, (by kernel_rfl)
      change wpList _ _ _ _ _ v2.drew
      have G2 := Lib.hid G2.out.drew
      generalize v2.drew = v2 at G2 ⊢
      go_wp2_with fail
      refine (number_r R L (k * 3 + 2) 99 _ 0 (ρk.textR.left 8) 8 (by omega) hs2k.out _ G2.out.rd G2.out.l (rget2 HA.out) G2.out.neL).mono ?_
      rintro e v3 ⟨rfl, q1, q2, q3⟩
      rw [rset2 HA.out] at q2
      have G3 := Lib.hid (G2.out.step q1 q2 q3)
      clear q1 q2 q3 G2
      have G4 : LR w v3 R b t cs1 L (rowR (ρ1.ents (k + 1)).1 n) (ρ1.ents (k + 1)).2 := by
        rw [E2.out, hR2.out]
        simp only [Rd.entV, Rd.entR]
        exact G3.out
      have G4 := Lib.hid G4
      clear G3
      go_wp2_with fail
      go_roundg (n - (k + 1))
      case measure => omega
      case rel => exact ⟨k + 1, by omega, by go_num, G4⟩
    · have hke : k = n := by omega
      subst hke
      have hkz : ¬ ((k : Int) < (k : Int)) := by omega
      go_wp2_with fail
      go_ret
      have hrow := rowR_full (ρ1.ents k).1
      rw [Rd.ents_length] at hrow
      have hl := F.out.l
      rw [hrow] at hl
      exact ⟨rfl, L, F.out.new, F.out.rd, by rw [Rd.ents_length, HC1.out]; exact F.out.m, hl, F.out.keep⟩

set_option maxHeartbeats 8000000 in
set_option maxRecDepth 100000 in
theorem list_r_long (R b o : Nat) (t : TypeId) (cs : List Value) (ρ : Rd) (hs : ρ.s.size ≤ 281474976710656) (w : World) (h : RdS w R ρ) (hb : Blk w b t cs) (ho : cs[o]? = some (.slice none 0 0)) (hne : b ≠ R)
    (h1 : ¬ ρ.num 4 ≤ 64) :
    Calls Try.prog 51 #[.iface 90 (.pointer (some ⟨R, 0, none⟩)), .pointer (some ⟨b, o, none⟩)] w fun r w' => r = .returned (.bool false) ∧ RPost w R b t cs (ρ.left 4) w' := by
  have hc : w.cell? ⟨b, o, none⟩ = some (.slice none 0 0) := hb.cell o ho
  have hRl := h.lt
  have hbl := hb.lt
  have y0 := Blk.new w 23 [.int .u64 0]
  have C := Lib.hid (number_r R w.heap.size 0 23 [.int .u64 0] 0 ρ 4 (by omega) hs _ (h.alloc _) y0 rfl (by omega))
  have HB := Lib.hid hb
  have hm := rm_number ⟨R, 0, none⟩
  have hm2 := rm_text ⟨R, 0, none⟩
  have hn := rn_number ⟨R, 0, none⟩
  have hn2 := rn_text ⟨R, 0, none⟩
  have Ho := Lib.hid ho
  clear h hb y0 hs
  generalize hn4 : ρ.num 4 = n at *
  generalize ρ.left 4 = ρ1 at *
  go_enter Try.func51, Try.ntmps51
  go_wp2_with fail
  refine C.out.mono ?_
  rintro e w2 ⟨rfl, q1, q2, q3⟩
  have cy : w2.cell? ⟨w.heap.size, 0, none⟩ = some (.int .u64 (n : Int)) := q2.cell 0 rfl
  have B2 := Lib.hid ((HB.out.alloc (.cells #[.int .u64 0] 23)).kept q3 (by rintro (e | e); exact hne e; omega))
  have hcM : w2.cell? ⟨b, o, none⟩ = some (.slice none 0 0) := B2.out.cell o Ho.out
  have Q1 := Lib.hid q1
  have K := Lib.hid (((Keeps.refl (fun k => k = R ∨ k = b) w).alloc (.cells #[.int .u64 0] 23)).trans q3 (by rintro k hk (e | e); exact .inl e; omega))
  clear q1 q2 q3 C HB hc
  have g64 : (64 : Int) < (n : Int) := by omega
  have hnil := Lib.run_eql_slice_nil (P := Try.prog)
  go_wp2_with fail
  go_ret
  exact ⟨rfl, Q1.out, B2.out, K.out⟩

set_option maxHeartbeats 8000000 in
set_option maxRecDepth 100000 in
theorem list_r_none (R b o : Nat) (t : TypeId) (cs : List Value) (ρ : Rd) (hs : ρ.s.size ≤ 281474976710656) (w : World) (h : RdS w R ρ) (hb : Blk w b t cs) (ho : cs[o]? = some (.slice none 0 0)) (hne : b ≠ R)
    (h1 : ρ.num 4 = 0) :
    Calls Try.prog 51 #[.iface 90 (.pointer (some ⟨R, 0, none⟩)), .pointer (some ⟨b, o, none⟩)] w fun r w' => r = .returned (.bool true) ∧ RPost w R b t cs (ρ.left 4) w' := by
  have hc : w.cell? ⟨b, o, none⟩ = some (.slice none 0 0) := hb.cell o ho
  have hRl := h.lt
  have hbl := hb.lt
  have y0 := Blk.new w 23 [.int .u64 0]
  have C := Lib.hid (number_r R w.heap.size 0 23 [.int .u64 0] 0 ρ 4 (by omega) hs _ (h.alloc _) y0 rfl (by omega))
  have HB := Lib.hid hb
  have hm := rm_number ⟨R, 0, none⟩
  have hm2 := rm_text ⟨R, 0, none⟩
  have hn := rn_number ⟨R, 0, none⟩
  have hn2 := rn_text ⟨R, 0, none⟩
  have Ho := Lib.hid ho
  clear h hb y0 hs
  generalize hn4 : ρ.num 4 = n at *
  generalize ρ.left 4 = ρ1 at *
  go_enter Try.func51, Try.ntmps51
  go_wp2_with fail
  refine C.out.mono ?_
  rintro e w2 ⟨rfl, q1, q2, q3⟩
  have cy : w2.cell? ⟨w.heap.size, 0, none⟩ = some (.int .u64 (n : Int)) := q2.cell 0 rfl
  have B2 := Lib.hid ((HB.out.alloc (.cells #[.int .u64 0] 23)).kept q3 (by rintro (e | e); exact hne e; omega))
  have hcM : w2.cell? ⟨b, o, none⟩ = some (.slice none 0 0) := B2.out.cell o Ho.out
  have Q1 := Lib.hid q1
  have K := Lib.hid (((Keeps.refl (fun k => k = R ∨ k = b) w).alloc (.cells #[.int .u64 0] 23)).trans q3 (by rintro k hk (e | e); exact .inl e; omega))
  clear q1 q2 q3 C HB hc
  have hn0 : n = 0 := by omega
  subst hn0
  have hnil := Lib.run_eql_slice_nil (P := Try.prog)
  go_wp2_with fail
  refine wp_loop_rounds 1 ?_
  rw [rounds_succ]
  go_wp2_with fail
  go_ret
  exact ⟨rfl, Q1.out, B2.out, K.out⟩

end Go.Proofs.Ytibcadfpengacaa

-- AskR
set_option linter.unusedVariables false
set_option linter.unusedSimpArgs false
namespace Go.Proofs.Ytibcadfpengacaa
open Go.RowKit Go.Lib Go.Proofs.YtibcadfpengacaaW.PrintWords Go.Proofs.YtibcadfpengacaaW.PrintMore Go.Proofs.YtibcadfpengacaaW.PrintLast

def Msg.setKind (m : Msg) (v : Int) : Msg := { m with kind := v }
def Msg.setClient (m : Msg) (v : Int) : Msg := { m with client := v }
def Msg.setXid (m : Msg) (v : Int) : Msg := { m with xid := v }
def Msg.setOp (m : Msg) (v : Int) : Msg := { m with op := v }
def Msg.setH (m : Msg) (v : Hd) : Msg := { m with h := v }
def Msg.setH2 (m : Msg) (v : Hd) : Msg := { m with h2 := v }
def Msg.setName (m : Msg) (v : ByteArray) : Msg := { m with name := v }
def Msg.setName2 (m : Msg) (v : ByteArray) : Msg := { m with name2 := v }
def Msg.setOff (m : Msg) (v : Int) : Msg := { m with off := v }
def Msg.setNum (m : Msg) (v : Int) : Msg := { m with num := v }
def Msg.setData (m : Msg) (v : ByteArray) : Msg := { m with data := v }
def Msg.setStatus (m : Msg) (v : Int) : Msg := { m with status := v }
def Msg.setAh (m : Msg) (v : Hd) : Msg := { m with ah := v }
def Msg.setAkind (m : Msg) (v : Int) : Msg := { m with akind := v }
def Msg.setLinks (m : Msg) (v : Int) : Msg := { m with links := v }
def Msg.setSize (m : Msg) (v : Int) : Msg := { m with size := v }
def Msg.setChange (m : Msg) (v : Int) : Msg := { m with change := v }
def Msg.setAdata (m : Msg) (v : ByteArray) : Msg := { m with adata := v }
def Msg.setEof (m : Msg) (v : Bool) : Msg := { m with eof := v }
def Msg.setAnum (m : Msg) (v : Int) : Msg := { m with anum := v }
def Msg.setList (m : Msg) (v : List Ent) : Msg := { m with list := v }
def Msg.setBoot (m : Msg) (v : Int) : Msg := { m with boot := v }
def Msg.setGb (m : Msg) (v : Int) : Msg := { m with gb := v }
def Msg.setGn (m : Msg) (v : Int) : Msg := { m with gn := v }
def Hd.zero : Hd := ⟨0, 0, 0, 0⟩
def Msg.zero : Msg := ⟨0, 0, 0, 0, Hd.zero, Hd.zero, ⟨#[]⟩, ⟨#[]⟩, 0, 0, ⟨#[]⟩, 0, Hd.zero, 0, 0, 0, 0, ⟨#[]⟩, false, 0, [], 0, 0, 0⟩

/-- A reader at R and a message's cells at M, on the way from w0 to w. -/
structure FR (w0 w : World) (R M : Nat) (m : Msg) (L : Value) (ρ : Rd) : Prop where
  rd : RdS w R ρ
  m : Blk w M 36 (m.vs L)
  keep : Keeps (fun k => k = R ∨ k = M) w0 w
  ne : M ≠ R
  sz : ρ.s.size ≤ 281474976710656
theorem FR.drew {w0 w : World} {R M : Nat} {m : Msg} {L : Value} {ρ : Rd} (h : FR w0 w R M m L ρ) : FR w0 w.drew R M m L ρ := ⟨h.rd, h.m, h.keep.drew, h.ne, h.sz⟩
theorem FR.step {w0 w w' : World} {R M : Nat} {m m' : Msg} {L L' : Value} {ρ ρ' : Rd} (h : FR w0 w R M m L ρ) (q1 : RdS w' R ρ') (q2 : Blk w' M 36 (m'.vs L')) (q3 : Keeps (fun k => k = R ∨ k = M) w w') (hz : ρ'.s.size ≤ ρ.s.size) : FR w0 w' R M m' L' ρ' :=
  ⟨q1, q2, h.keep.trans q3 (fun _ _ h => h), h.ne, Nat.le_trans hz h.sz⟩
theorem FR.here {w0 w : World} {R M : Nat} {m : Msg} {L : Value} {ρ : Rd} (h : FR w0 w R M m L ρ) : FR w w R M m L ρ := ⟨h.rd, h.m, Keeps.refl _ _, h.ne, h.sz⟩

def askM (ρ : Rd) (m : Msg) : Msg := ((((((((m.setOp (ρ.num 1)).setH (decH ((ρ.left 1).took 28))).setH2 (decH (((ρ.left 1).left 28).took 28))).setName ((((ρ.left 1).left 28).left 28).textS (((m.setOp (ρ.num 1)).setH (decH ((ρ.left 1).took 28))).setH2 (decH (((ρ.left 1).left 28).took 28))).name)).setName2 ((((ρ.left 1).left 28).left 28).textR.textS ((((m.setOp (ρ.num 1)).setH (decH ((ρ.left 1).took 28))).setH2 (decH (((ρ.left 1).left 28).took 28))).setName ((((ρ.left 1).left 28).left 28).textS (((m.setOp (ρ.num 1)).setH (decH ((ρ.left 1).took 28))).setH2 (decH (((ρ.left 1).left 28).took 28))).name)).name2)).setOff ((((ρ.left 1).left 28).left 28).textR.textR.num 8)).setNum (((((ρ.left 1).left 28).left 28).textR.textR.left 8).num 8)).setData ((((((ρ.left 1).left 28).left 28).textR.textR.left 8).left 8).textS (((((((m.setOp (ρ.num 1)).setH (decH ((ρ.left 1).took 28))).setH2 (decH (((ρ.left 1).left 28).took 28))).setName ((((ρ.left 1).left 28).left 28).textS (((m.setOp (ρ.num 1)).setH (decH ((ρ.left 1).took 28))).setH2 (decH (((ρ.left 1).left 28).took 28))).name)).setName2 ((((ρ.left 1).left 28).left 28).textR.textS ((((m.setOp (ρ.num 1)).setH (decH ((ρ.left 1).took 28))).setH2 (decH (((ρ.left 1).left 28).took 28))).setName ((((ρ.left 1).left 28).left 28).textS (((m.setOp (ρ.num 1)).setH (decH ((ρ.left 1).took 28))).setH2 (decH (((ρ.left 1).left 28).took 28))).name)).name2)).setOff ((((ρ.left 1).left 28).left 28).textR.textR.num 8)).setNum (((((ρ.left 1).left 28).left 28).textR.textR.left 8).num 8)).data))
def askR (ρ : Rd) : Rd := (((((ρ.left 1).left 28).left 28).textR.textR.left 8).left 8).textR
theorem askR_size (ρ : Rd) : (askR ρ).s.size ≤ ρ.s.size := by
  unfold askR
  have h0 := Rd.left_size ρ 1
  generalize (ρ.left 1) = z0 at *
  have h1 := Rd.left_size z0 28
  generalize (z0.left 28) = z1 at *
  have h2 := Rd.left_size z1 28
  generalize (z1.left 28) = z2 at *
  have h3 := Rd.textR_size z2
  generalize z2.textR = z3 at *
  have h4 := Rd.textR_size z3
  generalize z3.textR = z4 at *
  have h5 := Rd.left_size z4 8
  generalize (z4.left 8) = z5 at *
  have h6 := Rd.left_size z5 8
  generalize (z5.left 8) = z6 at *
  have h7 := Rd.textR_size z6
  generalize z6.textR = z7 at *
  omega
set_option maxHeartbeats 8000000 in
set_option maxRecDepth 100000 in
theorem ask_r (R M : Nat) (m : Msg) (L : Value) (ρ : Rd) (hop : I64 m.op) (wI : World) (hF : FR wI wI R M m L ρ) :
    Calls Try.prog 49 #[.iface 90 (.pointer (some ⟨R, 0, none⟩)), .pointer (some ⟨M, 3, none⟩)] wI fun r w' => r = .returned (.tuple #[]) ∧ RPost wI R M 36 (Msg.vs (askM ρ m) L) (askR ρ) w' := by
  unfold askM askR
  have x1 := rm_number ⟨R, 0, none⟩; have x2 := rm_text ⟨R, 0, none⟩; have x3 := rm_handle ⟨R, 0, none⟩
  have y1 := rn_number ⟨R, 0, none⟩; have y2 := rn_text ⟨R, 0, none⟩; have y3 := rn_handle ⟨R, 0, none⟩
  obtain ⟨m0, E0⟩ : ∃ x, Hid (x = m) := ⟨_, Lib.hid rfl⟩
  obtain ⟨r0, D0⟩ : ∃ x, Hid (x = ρ) := ⟨_, Lib.hid rfl⟩
  rw [← E0.out, ← D0.out] at hF
  have F0 := Lib.hid hF
  clear hF
  have Hop := Lib.hid hop
  clear hop
  go_enter Try.func49, Try.ntmps49
  go_wp2_with fail
  have HV0 := Lib.hid (show I64 m0.op by rw [E0.out]; exact Hop.out)
  refine (small_r R M 3 36 (m0.vs L) m0.op r0 F0.out.sz HV0.out _ F0.out.rd F0.out.m rfl F0.out.ne).mono ?_
  rintro e w1 ⟨rfl, ⟨q1, q2, q3⟩⟩
  have f := F0.out.step q1 (show Blk w1 M 36 (Msg.vs (m0.setOp (r0.num 1)) L) from q2) q3 (Rd.left_size r0 1)
  have F1 := Lib.hid f
  clear q1 q2 q3 f F0
  obtain ⟨m1, E1⟩ : ∃ x, Hid (x = (m0.setOp (r0.num 1))) := ⟨_, Lib.hid rfl⟩
  obtain ⟨r1, D1⟩ : ∃ x, Hid (x = (r0.left 1)) := ⟨_, Lib.hid rfl⟩
  rw [← E1.out, ← D1.out] at F1
  go_wp2_with fail
  go_still_tail 7, (by kernel_rfl)
  change wpList _ _ _ _ _ w1.drew
  have F1 := Lib.hid F1.out.drew
  generalize w1.drew = w1 at F1 ⊢
  go_wp2_with fail
  refine (handle_r R M 4 36 (m1.vs L) _ _ _ _ r1 F1.out.sz _ F1.out.rd F1.out.m rfl rfl rfl rfl F1.out.ne).mono ?_
  rintro e w2 ⟨rfl, q1, q2, q3⟩
  have f := F1.out.step q1 (show Blk w2 M 36 (Msg.vs (m1.setH (decH (r1.took 28))) L) from q2) q3 (Rd.left_size r1 28)
  have F2 := Lib.hid f
  clear q1 q2 q3 f F1
  obtain ⟨m2, E2⟩ : ∃ x, Hid (x = (m1.setH (decH (r1.took 28)))) := ⟨_, Lib.hid rfl⟩
  obtain ⟨r2, D2⟩ : ∃ x, Hid (x = (r1.left 28)) := ⟨_, Lib.hid rfl⟩
  rw [← E2.out, ← D2.out] at F2
  go_wp2_with fail
  go_still_tail 7, (by kernel_rfl)
  change wpList _ _ _ _ _ w2.drew
  have F2 := Lib.hid F2.out.drew
  generalize w2.drew = w2 at F2 ⊢
  go_wp2_with fail
  refine (handle_r R M 8 36 (m2.vs L) _ _ _ _ r2 F2.out.sz _ F2.out.rd F2.out.m rfl rfl rfl rfl F2.out.ne).mono ?_
  rintro e w3 ⟨rfl, q1, q2, q3⟩
  have f := F2.out.step q1 (show Blk w3 M 36 (Msg.vs (m2.setH2 (decH (r2.took 28))) L) from q2) q3 (Rd.left_size r2 28)
  have F3 := Lib.hid f
  clear q1 q2 q3 f F2
  obtain ⟨m3, E3⟩ : ∃ x, Hid (x = (m2.setH2 (decH (r2.took 28)))) := ⟨_, Lib.hid rfl⟩
  obtain ⟨r3, D3⟩ : ∃ x, Hid (x = (r2.left 28)) := ⟨_, Lib.hid rfl⟩
  rw [← E3.out, ← D3.out] at F3
  go_wp2_with fail
  go_still_tail 7, (by kernel_rfl)
  change wpList _ _ _ _ _ w3.drew
  have F3 := Lib.hid F3.out.drew
  generalize w3.drew = w3 at F3 ⊢
  go_wp2_with fail
  refine (text_r R M 12 36 (m3.vs L) m3.name r3 F3.out.sz _ F3.out.rd F3.out.m rfl F3.out.ne).mono ?_
  rintro e w4 ⟨rfl, q1, q2, q3⟩
  have f := F3.out.step q1 (show Blk w4 M 36 (Msg.vs (m3.setName (r3.textS m3.name)) L) from q2) q3 (Rd.textR_size r3)
  have F4 := Lib.hid f
  clear q1 q2 q3 f F3
  obtain ⟨m4, E4⟩ : ∃ x, Hid (x = (m3.setName (r3.textS m3.name))) := ⟨_, Lib.hid rfl⟩
  obtain ⟨r4, D4⟩ : ∃ x, Hid (x = r3.textR) := ⟨_, Lib.hid rfl⟩
  rw [← E4.out, ← D4.out] at F4
  go_wp2_with fail
  go_still_tail 7, (by kernel_rfl)
  change wpList _ _ _ _ _ w4.drew
  have F4 := Lib.hid F4.out.drew
  generalize w4.drew = w4 at F4 ⊢
  go_wp2_with fail
  refine (text_r R M 13 36 (m4.vs L) m4.name2 r4 F4.out.sz _ F4.out.rd F4.out.m rfl F4.out.ne).mono ?_
  rintro e w5 ⟨rfl, q1, q2, q3⟩
  have f := F4.out.step q1 (show Blk w5 M 36 (Msg.vs (m4.setName2 (r4.textS m4.name2)) L) from q2) q3 (Rd.textR_size r4)
  have F5 := Lib.hid f
  clear q1 q2 q3 f F4
  obtain ⟨m5, E5⟩ : ∃ x, Hid (x = (m4.setName2 (r4.textS m4.name2))) := ⟨_, Lib.hid rfl⟩
  obtain ⟨r5, D5⟩ : ∃ x, Hid (x = r4.textR) := ⟨_, Lib.hid rfl⟩
  rw [← E5.out, ← D5.out] at F5
  go_wp2_with fail
  go_still_tail 7, (by kernel_rfl)
  change wpList _ _ _ _ _ w5.drew
  have F5 := Lib.hid F5.out.drew
  generalize w5.drew = w5 at F5 ⊢
  go_wp2_with fail
  refine (number_r R M 14 36 (m5.vs L) m5.off r5 8 (by omega) F5.out.sz _ F5.out.rd F5.out.m rfl F5.out.ne).mono ?_
  rintro e w6 ⟨rfl, q1, q2, q3⟩
  have f := F5.out.step q1 (show Blk w6 M 36 (Msg.vs (m5.setOff (r5.num 8)) L) from q2) q3 (Rd.left_size r5 8)
  have F6 := Lib.hid f
  clear q1 q2 q3 f F5
  obtain ⟨m6, E6⟩ : ∃ x, Hid (x = (m5.setOff (r5.num 8))) := ⟨_, Lib.hid rfl⟩
  obtain ⟨r6, D6⟩ : ∃ x, Hid (x = (r5.left 8)) := ⟨_, Lib.hid rfl⟩
  rw [← E6.out, ← D6.out] at F6
  go_wp2_with fail
  go_still_tail 7, (by kernel_rfl)
  change wpList _ _ _ _ _ w6.drew
  have F6 := Lib.hid F6.out.drew
  generalize w6.drew = w6 at F6 ⊢
  go_wp2_with fail
  refine (number_r R M 15 36 (m6.vs L) m6.num r6 8 (by omega) F6.out.sz _ F6.out.rd F6.out.m rfl F6.out.ne).mono ?_
  rintro e w7 ⟨rfl, q1, q2, q3⟩
  have f := F6.out.step q1 (show Blk w7 M 36 (Msg.vs (m6.setNum (r6.num 8)) L) from q2) q3 (Rd.left_size r6 8)
  have F7 := Lib.hid f
  clear q1 q2 q3 f F6
  obtain ⟨m7, E7⟩ : ∃ x, Hid (x = (m6.setNum (r6.num 8))) := ⟨_, Lib.hid rfl⟩
  obtain ⟨r7, D7⟩ : ∃ x, Hid (x = (r6.left 8)) := ⟨_, Lib.hid rfl⟩
  rw [← E7.out, ← D7.out] at F7
  go_wp2_with fail
  go_still_tail 7, (by kernel_rfl)
  change wpList _ _ _ _ _ w7.drew
  have F7 := Lib.hid F7.out.drew
  generalize w7.drew = w7 at F7 ⊢
  go_wp2_with fail
  refine (text_r R M 16 36 (m7.vs L) m7.data r7 F7.out.sz _ F7.out.rd F7.out.m rfl F7.out.ne).mono ?_
  rintro e w8 ⟨rfl, q1, q2, q3⟩
  have f := F7.out.step q1 (show Blk w8 M 36 (Msg.vs (m7.setData (r7.textS m7.data)) L) from q2) q3 (Rd.textR_size r7)
  have F8 := Lib.hid f
  clear q1 q2 q3 f F7
  obtain ⟨m8, E8⟩ : ∃ x, Hid (x = (m7.setData (r7.textS m7.data))) := ⟨_, Lib.hid rfl⟩
  obtain ⟨r8, D8⟩ : ∃ x, Hid (x = r7.textR) := ⟨_, Lib.hid rfl⟩
  rw [← E8.out, ← D8.out] at F8
  go_wp2_with fail
  go_end0
  have hp : RPost wI R M 36 (Msg.vs m8 L) r8 w8 := ⟨F8.out.rd, F8.out.m, F8.out.keep⟩
  rw [E8.out, D8.out, E7.out, D7.out, E6.out, D6.out, E5.out, D5.out, E4.out, D4.out, E3.out, D3.out, E2.out, D2.out, E1.out, D1.out, E0.out, D0.out] at hp
  exact ⟨rfl, hp⟩

def stampM (ρ : Rd) (m : Msg) : Msg := (((m.setBoot (ρ.num 8)).setGb ((ρ.left 8).num 8)).setGn (((ρ.left 8).left 8).num 8))
def stampR (ρ : Rd) : Rd := (((ρ.left 8).left 8).left 8)
theorem stampR_size (ρ : Rd) : (stampR ρ).s.size ≤ ρ.s.size := by
  unfold stampR
  have h0 := Rd.left_size ρ 8
  generalize (ρ.left 8) = z0 at *
  have h1 := Rd.left_size z0 8
  generalize (z0.left 8) = z1 at *
  have h2 := Rd.left_size z1 8
  generalize (z1.left 8) = z2 at *
  omega
set_option maxHeartbeats 8000000 in
set_option maxRecDepth 100000 in
theorem stamp_r (R M : Nat) (m : Msg) (L : Value) (ρ : Rd)  (wI : World) (hF : FR wI wI R M m L ρ) :
    Calls Try.prog 52 #[.iface 90 (.pointer (some ⟨R, 0, none⟩)), .pointer (some ⟨M, 0, none⟩)] wI fun r w' => r = .returned (.tuple #[]) ∧ RPost wI R M 36 (Msg.vs (stampM ρ m) L) (stampR ρ) w' := by
  unfold stampM stampR
  have x1 := rm_number ⟨R, 0, none⟩; have x2 := rm_text ⟨R, 0, none⟩; have x3 := rm_handle ⟨R, 0, none⟩
  have y1 := rn_number ⟨R, 0, none⟩; have y2 := rn_text ⟨R, 0, none⟩; have y3 := rn_handle ⟨R, 0, none⟩
  obtain ⟨m0, E0⟩ : ∃ x, Hid (x = m) := ⟨_, Lib.hid rfl⟩
  obtain ⟨r0, D0⟩ : ∃ x, Hid (x = ρ) := ⟨_, Lib.hid rfl⟩
  rw [← E0.out, ← D0.out] at hF
  have F0 := Lib.hid hF
  clear hF
  go_enter Try.func52, Try.ntmps52
  go_wp2_with fail
  go_still_tail 7, (by kernel_rfl)
  change wpList _ _ _ _ _ wI.drew
  have F0 := Lib.hid F0.out.drew
  generalize wI.drew = w0 at F0 ⊢
  go_wp2_with fail
  refine (number_r R M 30 36 (m0.vs L) m0.boot r0 8 (by omega) F0.out.sz _ F0.out.rd F0.out.m rfl F0.out.ne).mono ?_
  rintro e w1 ⟨rfl, q1, q2, q3⟩
  have f := F0.out.step q1 (show Blk w1 M 36 (Msg.vs (m0.setBoot (r0.num 8)) L) from q2) q3 (Rd.left_size r0 8)
  have F1 := Lib.hid f
  clear q1 q2 q3 f F0
  obtain ⟨m1, E1⟩ : ∃ x, Hid (x = (m0.setBoot (r0.num 8))) := ⟨_, Lib.hid rfl⟩
  obtain ⟨r1, D1⟩ : ∃ x, Hid (x = (r0.left 8)) := ⟨_, Lib.hid rfl⟩
  rw [← E1.out, ← D1.out] at F1
  go_wp2_with fail
  go_still_tail 8, (by kernel_rfl)
  change wpList _ _ _ _ _ w1.drew
  have F1 := Lib.hid F1.out.drew
  generalize w1.drew = w1 at F1 ⊢
  go_wp2_with fail
  refine (number_r R M 31 36 (m1.vs L) m1.gb r1 8 (by omega) F1.out.sz _ F1.out.rd F1.out.m rfl F1.out.ne).mono ?_
  rintro e w2 ⟨rfl, q1, q2, q3⟩
  have f := F1.out.step q1 (show Blk w2 M 36 (Msg.vs (m1.setGb (r1.num 8)) L) from q2) q3 (Rd.left_size r1 8)
  have F2 := Lib.hid f
  clear q1 q2 q3 f F1
  obtain ⟨m2, E2⟩ : ∃ x, Hid (x = (m1.setGb (r1.num 8))) := ⟨_, Lib.hid rfl⟩
  obtain ⟨r2, D2⟩ : ∃ x, Hid (x = (r1.left 8)) := ⟨_, Lib.hid rfl⟩
  rw [← E2.out, ← D2.out] at F2
  go_wp2_with fail
  go_still_tail 8, (by kernel_rfl)
  change wpList _ _ _ _ _ w2.drew
  have F2 := Lib.hid F2.out.drew
  generalize w2.drew = w2 at F2 ⊢
  go_wp2_with fail
  refine (number_r R M 32 36 (m2.vs L) m2.gn r2 8 (by omega) F2.out.sz _ F2.out.rd F2.out.m rfl F2.out.ne).mono ?_
  rintro e w3 ⟨rfl, q1, q2, q3⟩
  have f := F2.out.step q1 (show Blk w3 M 36 (Msg.vs (m2.setGn (r2.num 8)) L) from q2) q3 (Rd.left_size r2 8)
  have F3 := Lib.hid f
  clear q1 q2 q3 f F2
  obtain ⟨m3, E3⟩ : ∃ x, Hid (x = (m2.setGn (r2.num 8))) := ⟨_, Lib.hid rfl⟩
  obtain ⟨r3, D3⟩ : ∃ x, Hid (x = (r2.left 8)) := ⟨_, Lib.hid rfl⟩
  rw [← E3.out, ← D3.out] at F3
  go_wp2_with fail
  go_end0
  have hp : RPost wI R M 36 (Msg.vs m3 L) r3 w3 := ⟨F3.out.rd, F3.out.m, F3.out.keep⟩
  rw [E3.out, D3.out, E2.out, D2.out, E1.out, D1.out, E0.out, D0.out] at hp
  exact ⟨rfl, hp⟩

end Go.Proofs.Ytibcadfpengacaa

-- MsgR
set_option linter.unusedVariables false
set_option linter.unusedSimpArgs false
namespace Go.Proofs.Ytibcadfpengacaa
open Go.RowKit Go.Lib Go.Proofs.YtibcadfpengacaaW.PrintWords Go.Proofs.YtibcadfpengacaaW.PrintMore Go.Proofs.YtibcadfpengacaaW.PrintLast

def callM (ρ : Rd) : Msg := (askM (((ρ.left 1).left 4).left 8) (((Msg.zero.setKind (ρ.num 1)).setClient ((ρ.left 1).num 4)).setXid (((ρ.left 1).left 4).num 8)))
def callR (ρ : Rd) : Rd := (askR (((ρ.left 1).left 4).left 8))
set_option maxHeartbeats 16000000 in
set_option maxRecDepth 100000 in
theorem fields_r_call (R M : Nat) (ρ : Rd) (wI : World) (hF : FR wI wI R M Msg.zero (.slice none 0 0) ρ) (hkind : ρ.num 1 = 1) :
    Calls Try.prog 32 #[.iface 90 (.pointer (some ⟨R, 0, none⟩)), .pointer (some ⟨M, 0, none⟩)] wI fun r w' => r = .returned (.tuple #[.bool true, .bool true]) ∧ RPost wI R M 36 (Msg.vs (callM ρ) (.slice none 0 0)) (callR ρ) w' := by
  unfold callM callR
  obtain ⟨m, hmz⟩ : ∃ x, x = Msg.zero := ⟨_, rfl⟩
  rw [← hmz] at hF
  have E00 := Lib.hid hmz
  generalize hL : (Value.slice none 0 0) = L at hF
  have kb1 : (((ρ.num 1 : Nat) : Int) == 1) = true := by rw [hkind]; rfl
  have kb2 : (((ρ.num 1 : Nat) : Int) == 2) = false := beq_eq_false_iff_ne.2 (by omega)
  have kb3 : (((ρ.num 1 : Nat) : Int) == 3) = false := beq_eq_false_iff_ne.2 (by omega)
  have kb4 : (((ρ.num 1 : Nat) : Int) == 4) = false := beq_eq_false_iff_ne.2 (by omega)
  have HK := Lib.hid hkind
  clear hkind hmz
  have x1 := rm_number ⟨R, 0, none⟩; have x2 := rm_text ⟨R, 0, none⟩; have x3 := rm_handle ⟨R, 0, none⟩
  have y1 := rn_number ⟨R, 0, none⟩; have y2 := rn_text ⟨R, 0, none⟩; have y3 := rn_handle ⟨R, 0, none⟩
  obtain ⟨m0, E0⟩ : ∃ x, Hid (x = m) := ⟨_, Lib.hid rfl⟩
  obtain ⟨r0, D0⟩ : ∃ x, Hid (x = ρ) := ⟨_, Lib.hid rfl⟩
  rw [← E0.out, ← D0.out] at hF
  have F0 := Lib.hid hF
  clear hF
  have HL := Lib.hid hL
  have E0 := Lib.hid (E0.out.trans E00.out)
  clear hL
  go_enter Try.func32, Try.ntmps32
  go_wp2_with fail

  have HV0 := Lib.hid (show I64 m0.kind by rw [E0.out]; exact (⟨by decide, by decide⟩ : I64 0))
  refine (small_r R M 0 36 (m0.vs L) m0.kind r0 F0.out.sz HV0.out _ F0.out.rd F0.out.m rfl F0.out.ne).mono ?_
  rintro e w1 ⟨rfl, ⟨q1, q2, q3⟩⟩
  have f := F0.out.step q1 (show Blk w1 M 36 (Msg.vs (m0.setKind (r0.num 1)) L) from q2) q3 (Rd.left_size r0 1)
  have F1 := Lib.hid f
  clear q1 q2 q3 f F0
  obtain ⟨m1, E1⟩ : ∃ x, Hid (x = (m0.setKind (r0.num 1))) := ⟨_, Lib.hid rfl⟩
  obtain ⟨r1, D1⟩ : ∃ x, Hid (x = (r0.left 1)) := ⟨_, Lib.hid rfl⟩
  rw [← E1.out, ← D1.out] at F1
  go_wp2_with fail
  have HV1 := Lib.hid (show U32 m1.client by rw [E1.out, E0.out]; exact (⟨by decide, by decide⟩ : U32 0))
  refine (four_r R M 1 36 (m1.vs L) m1.client r1 F1.out.sz HV1.out _ F1.out.rd F1.out.m rfl F1.out.ne).mono ?_
  rintro e w2 ⟨rfl, ⟨q1, q2, q3⟩⟩
  have f := F1.out.step q1 (show Blk w2 M 36 (Msg.vs (m1.setClient (r1.num 4)) L) from q2) q3 (Rd.left_size r1 4)
  have F2 := Lib.hid f
  clear q1 q2 q3 f F1
  obtain ⟨m2, E2⟩ : ∃ x, Hid (x = (m1.setClient (r1.num 4))) := ⟨_, Lib.hid rfl⟩
  obtain ⟨r2, D2⟩ : ∃ x, Hid (x = (r1.left 4)) := ⟨_, Lib.hid rfl⟩
  rw [← E2.out, ← D2.out] at F2
  go_wp2_with fail
  go_still_tail 7, (by kernel_rfl)
  change wpList _ _ _ _ _ w2.drew
  have F2 := Lib.hid F2.out.drew
  generalize w2.drew = w2 at F2 ⊢
  go_wp2_with fail
  refine (number_r R M 2 36 (m2.vs L) m2.xid r2 8 (by omega) F2.out.sz _ F2.out.rd F2.out.m rfl F2.out.ne).mono ?_
  rintro e w3 ⟨rfl, q1, q2, q3⟩
  have f := F2.out.step q1 (show Blk w3 M 36 (Msg.vs (m2.setXid (r2.num 8)) L) from q2) q3 (Rd.left_size r2 8)
  have F3 := Lib.hid f
  clear q1 q2 q3 f F2
  obtain ⟨m3, E3⟩ : ∃ x, Hid (x = (m2.setXid (r2.num 8))) := ⟨_, Lib.hid rfl⟩
  obtain ⟨r3, D3⟩ : ∃ x, Hid (x = (r2.left 8)) := ⟨_, Lib.hid rfl⟩
  rw [← E3.out, ← D3.out] at F3
  have ck3 : w3.cell? ⟨M, 0, none⟩ = some (.int .i64 ((ρ.num 1 : Nat) : Int)) := by
    refine (F3.out.m.cell 0 rfl).trans ?_
    rw [show m3.kind = ((ρ.num 1 : Nat) : Int) by rw [E3.out, E2.out, E1.out, D0.out]; rfl]
  go_wp2_with fail
  have HV3 := Lib.hid (show I64 m3.op by rw [E3.out, E2.out, E1.out, E0.out]; exact (⟨by decide, by decide⟩ : I64 0))
  refine (ask_r R M m3 L r3 HV3.out _ F3.out.here).mono ?_
  rintro e w4 ⟨rfl, ⟨q1, q2, q3⟩⟩
  have f := F3.out.step q1 (show Blk w4 M 36 (Msg.vs (askM r3 m3) L) from q2) q3 (askR_size r3)
  have F4 := Lib.hid f
  clear q1 q2 q3 f F3 ck3
  obtain ⟨m4, E4⟩ : ∃ x, Hid (x = (askM r3 m3)) := ⟨_, Lib.hid rfl⟩
  obtain ⟨r4, D4⟩ : ∃ x, Hid (x = (askR r3)) := ⟨_, Lib.hid rfl⟩
  rw [← E4.out, ← D4.out] at F4
  go_wp2_with fail
  go_ret2
  have hp : RPost wI R M 36 (Msg.vs m4 L) r4 w4 := ⟨F4.out.rd, F4.out.m, F4.out.keep⟩
  rw [E4.out, D4.out, E3.out, D3.out, E2.out, D2.out, E1.out, D1.out, E0.out, D0.out] at hp
  exact ⟨rfl, hp⟩

def backM (ρ : Rd) : Msg := (stampM ((((ρ.left 1).left 4).left 8).left 28) ((((Msg.zero.setKind (ρ.num 1)).setClient ((ρ.left 1).num 4)).setXid (((ρ.left 1).left 4).num 8)).setH (decH ((((ρ.left 1).left 4).left 8).took 28))))
def backR (ρ : Rd) : Rd := (stampR ((((ρ.left 1).left 4).left 8).left 28))
set_option maxHeartbeats 16000000 in
set_option maxRecDepth 100000 in
theorem fields_r_recall (R M : Nat) (ρ : Rd) (wI : World) (hF : FR wI wI R M Msg.zero (.slice none 0 0) ρ) (hkind : ρ.num 1 = 3) :
    Calls Try.prog 32 #[.iface 90 (.pointer (some ⟨R, 0, none⟩)), .pointer (some ⟨M, 0, none⟩)] wI fun r w' => r = .returned (.tuple #[.bool true, .bool true]) ∧ RPost wI R M 36 (Msg.vs (backM ρ) (.slice none 0 0)) (backR ρ) w' := by
  unfold backM backR
  obtain ⟨m, hmz⟩ : ∃ x, x = Msg.zero := ⟨_, rfl⟩
  rw [← hmz] at hF
  have E00 := Lib.hid hmz
  generalize hL : (Value.slice none 0 0) = L at hF
  have kb1 : (((ρ.num 1 : Nat) : Int) == 1) = false := beq_eq_false_iff_ne.2 (by omega)
  have kb2 : (((ρ.num 1 : Nat) : Int) == 2) = false := beq_eq_false_iff_ne.2 (by omega)
  have kb3 : (((ρ.num 1 : Nat) : Int) == 3) = true := by rw [hkind]; rfl
  have kb4 : (((ρ.num 1 : Nat) : Int) == 4) = false := beq_eq_false_iff_ne.2 (by omega)
  have HK := Lib.hid hkind
  clear hkind hmz
  have x1 := rm_number ⟨R, 0, none⟩; have x2 := rm_text ⟨R, 0, none⟩; have x3 := rm_handle ⟨R, 0, none⟩
  have y1 := rn_number ⟨R, 0, none⟩; have y2 := rn_text ⟨R, 0, none⟩; have y3 := rn_handle ⟨R, 0, none⟩
  obtain ⟨m0, E0⟩ : ∃ x, Hid (x = m) := ⟨_, Lib.hid rfl⟩
  obtain ⟨r0, D0⟩ : ∃ x, Hid (x = ρ) := ⟨_, Lib.hid rfl⟩
  rw [← E0.out, ← D0.out] at hF
  have F0 := Lib.hid hF
  clear hF
  have HL := Lib.hid hL
  have E0 := Lib.hid (E0.out.trans E00.out)
  clear hL
  go_enter Try.func32, Try.ntmps32
  go_wp2_with fail

  have HV0 := Lib.hid (show I64 m0.kind by rw [E0.out]; exact (⟨by decide, by decide⟩ : I64 0))
  refine (small_r R M 0 36 (m0.vs L) m0.kind r0 F0.out.sz HV0.out _ F0.out.rd F0.out.m rfl F0.out.ne).mono ?_
  rintro e w1 ⟨rfl, ⟨q1, q2, q3⟩⟩
  have f := F0.out.step q1 (show Blk w1 M 36 (Msg.vs (m0.setKind (r0.num 1)) L) from q2) q3 (Rd.left_size r0 1)
  have F1 := Lib.hid f
  clear q1 q2 q3 f F0
  obtain ⟨m1, E1⟩ : ∃ x, Hid (x = (m0.setKind (r0.num 1))) := ⟨_, Lib.hid rfl⟩
  obtain ⟨r1, D1⟩ : ∃ x, Hid (x = (r0.left 1)) := ⟨_, Lib.hid rfl⟩
  rw [← E1.out, ← D1.out] at F1
  go_wp2_with fail
  have HV1 := Lib.hid (show U32 m1.client by rw [E1.out, E0.out]; exact (⟨by decide, by decide⟩ : U32 0))
  refine (four_r R M 1 36 (m1.vs L) m1.client r1 F1.out.sz HV1.out _ F1.out.rd F1.out.m rfl F1.out.ne).mono ?_
  rintro e w2 ⟨rfl, ⟨q1, q2, q3⟩⟩
  have f := F1.out.step q1 (show Blk w2 M 36 (Msg.vs (m1.setClient (r1.num 4)) L) from q2) q3 (Rd.left_size r1 4)
  have F2 := Lib.hid f
  clear q1 q2 q3 f F1
  obtain ⟨m2, E2⟩ : ∃ x, Hid (x = (m1.setClient (r1.num 4))) := ⟨_, Lib.hid rfl⟩
  obtain ⟨r2, D2⟩ : ∃ x, Hid (x = (r1.left 4)) := ⟨_, Lib.hid rfl⟩
  rw [← E2.out, ← D2.out] at F2
  go_wp2_with fail
  go_still_tail 7, (by kernel_rfl)
  change wpList _ _ _ _ _ w2.drew
  have F2 := Lib.hid F2.out.drew
  generalize w2.drew = w2 at F2 ⊢
  go_wp2_with fail
  refine (number_r R M 2 36 (m2.vs L) m2.xid r2 8 (by omega) F2.out.sz _ F2.out.rd F2.out.m rfl F2.out.ne).mono ?_
  rintro e w3 ⟨rfl, q1, q2, q3⟩
  have f := F2.out.step q1 (show Blk w3 M 36 (Msg.vs (m2.setXid (r2.num 8)) L) from q2) q3 (Rd.left_size r2 8)
  have F3 := Lib.hid f
  clear q1 q2 q3 f F2
  obtain ⟨m3, E3⟩ : ∃ x, Hid (x = (m2.setXid (r2.num 8))) := ⟨_, Lib.hid rfl⟩
  obtain ⟨r3, D3⟩ : ∃ x, Hid (x = (r2.left 8)) := ⟨_, Lib.hid rfl⟩
  rw [← E3.out, ← D3.out] at F3
  have ck3 : w3.cell? ⟨M, 0, none⟩ = some (.int .i64 ((ρ.num 1 : Nat) : Int)) := by
    refine (F3.out.m.cell 0 rfl).trans ?_
    rw [show m3.kind = ((ρ.num 1 : Nat) : Int) by rw [E3.out, E2.out, E1.out, D0.out]; rfl]
  go_wp2_with fail
  go_still_tail 8, (by kernel_rfl)
  change wpList _ _ _ _ _ w3.drew
  have F3 := Lib.hid F3.out.drew
  generalize w3.drew = w3 at F3 ⊢
  go_wp2_with fail
  refine (handle_r R M 4 36 (m3.vs L) _ _ _ _ r3 F3.out.sz _ F3.out.rd F3.out.m rfl rfl rfl rfl F3.out.ne).mono ?_
  rintro e w4 ⟨rfl, q1, q2, q3⟩
  have f := F3.out.step q1 (show Blk w4 M 36 (Msg.vs (m3.setH (decH (r3.took 28))) L) from q2) q3 (Rd.left_size r3 28)
  have F4 := Lib.hid f
  clear q1 q2 q3 f F3 ck3
  obtain ⟨m4, E4⟩ : ∃ x, Hid (x = (m3.setH (decH (r3.took 28)))) := ⟨_, Lib.hid rfl⟩
  obtain ⟨r4, D4⟩ : ∃ x, Hid (x = (r3.left 28)) := ⟨_, Lib.hid rfl⟩
  rw [← E4.out, ← D4.out] at F4
  go_wp2_with fail
  refine (stamp_r R M m4 L r4 _ F4.out.here).mono ?_
  rintro e w5 ⟨rfl, ⟨q1, q2, q3⟩⟩
  have f := F4.out.step q1 (show Blk w5 M 36 (Msg.vs (stampM r4 m4) L) from q2) q3 (stampR_size r4)
  have F5 := Lib.hid f
  clear q1 q2 q3 f F4
  obtain ⟨m5, E5⟩ : ∃ x, Hid (x = (stampM r4 m4)) := ⟨_, Lib.hid rfl⟩
  obtain ⟨r5, D5⟩ : ∃ x, Hid (x = (stampR r4)) := ⟨_, Lib.hid rfl⟩
  rw [← E5.out, ← D5.out] at F5
  go_wp2_with fail
  go_ret2
  have hp : RPost wI R M 36 (Msg.vs m5 L) r5 w5 := ⟨F5.out.rd, F5.out.m, F5.out.keep⟩
  rw [E5.out, D5.out, E4.out, D4.out, E3.out, D3.out, E2.out, D2.out, E1.out, D1.out, E0.out, D0.out] at hp
  exact ⟨rfl, hp⟩

set_option maxHeartbeats 16000000 in
set_option maxRecDepth 100000 in
theorem fields_r_return (R M : Nat) (ρ : Rd) (wI : World) (hF : FR wI wI R M Msg.zero (.slice none 0 0) ρ) (hkind : ρ.num 1 = 4) :
    Calls Try.prog 32 #[.iface 90 (.pointer (some ⟨R, 0, none⟩)), .pointer (some ⟨M, 0, none⟩)] wI fun r w' => r = .returned (.tuple #[.bool true, .bool true]) ∧ RPost wI R M 36 (Msg.vs (backM ρ) (.slice none 0 0)) (backR ρ) w' := by
  unfold backM backR
  obtain ⟨m, hmz⟩ : ∃ x, x = Msg.zero := ⟨_, rfl⟩
  rw [← hmz] at hF
  have E00 := Lib.hid hmz
  generalize hL : (Value.slice none 0 0) = L at hF
  have kb1 : (((ρ.num 1 : Nat) : Int) == 1) = false := beq_eq_false_iff_ne.2 (by omega)
  have kb2 : (((ρ.num 1 : Nat) : Int) == 2) = false := beq_eq_false_iff_ne.2 (by omega)
  have kb3 : (((ρ.num 1 : Nat) : Int) == 3) = false := beq_eq_false_iff_ne.2 (by omega)
  have kb4 : (((ρ.num 1 : Nat) : Int) == 4) = true := by rw [hkind]; rfl
  have HK := Lib.hid hkind
  clear hkind hmz
  have x1 := rm_number ⟨R, 0, none⟩; have x2 := rm_text ⟨R, 0, none⟩; have x3 := rm_handle ⟨R, 0, none⟩
  have y1 := rn_number ⟨R, 0, none⟩; have y2 := rn_text ⟨R, 0, none⟩; have y3 := rn_handle ⟨R, 0, none⟩
  obtain ⟨m0, E0⟩ : ∃ x, Hid (x = m) := ⟨_, Lib.hid rfl⟩
  obtain ⟨r0, D0⟩ : ∃ x, Hid (x = ρ) := ⟨_, Lib.hid rfl⟩
  rw [← E0.out, ← D0.out] at hF
  have F0 := Lib.hid hF
  clear hF
  have HL := Lib.hid hL
  have E0 := Lib.hid (E0.out.trans E00.out)
  clear hL
  go_enter Try.func32, Try.ntmps32
  go_wp2_with fail

  have HV0 := Lib.hid (show I64 m0.kind by rw [E0.out]; exact (⟨by decide, by decide⟩ : I64 0))
  refine (small_r R M 0 36 (m0.vs L) m0.kind r0 F0.out.sz HV0.out _ F0.out.rd F0.out.m rfl F0.out.ne).mono ?_
  rintro e w1 ⟨rfl, ⟨q1, q2, q3⟩⟩
  have f := F0.out.step q1 (show Blk w1 M 36 (Msg.vs (m0.setKind (r0.num 1)) L) from q2) q3 (Rd.left_size r0 1)
  have F1 := Lib.hid f
  clear q1 q2 q3 f F0
  obtain ⟨m1, E1⟩ : ∃ x, Hid (x = (m0.setKind (r0.num 1))) := ⟨_, Lib.hid rfl⟩
  obtain ⟨r1, D1⟩ : ∃ x, Hid (x = (r0.left 1)) := ⟨_, Lib.hid rfl⟩
  rw [← E1.out, ← D1.out] at F1
  go_wp2_with fail
  have HV1 := Lib.hid (show U32 m1.client by rw [E1.out, E0.out]; exact (⟨by decide, by decide⟩ : U32 0))
  refine (four_r R M 1 36 (m1.vs L) m1.client r1 F1.out.sz HV1.out _ F1.out.rd F1.out.m rfl F1.out.ne).mono ?_
  rintro e w2 ⟨rfl, ⟨q1, q2, q3⟩⟩
  have f := F1.out.step q1 (show Blk w2 M 36 (Msg.vs (m1.setClient (r1.num 4)) L) from q2) q3 (Rd.left_size r1 4)
  have F2 := Lib.hid f
  clear q1 q2 q3 f F1
  obtain ⟨m2, E2⟩ : ∃ x, Hid (x = (m1.setClient (r1.num 4))) := ⟨_, Lib.hid rfl⟩
  obtain ⟨r2, D2⟩ : ∃ x, Hid (x = (r1.left 4)) := ⟨_, Lib.hid rfl⟩
  rw [← E2.out, ← D2.out] at F2
  go_wp2_with fail
  go_still_tail 7, (by kernel_rfl)
  change wpList _ _ _ _ _ w2.drew
  have F2 := Lib.hid F2.out.drew
  generalize w2.drew = w2 at F2 ⊢
  go_wp2_with fail
  refine (number_r R M 2 36 (m2.vs L) m2.xid r2 8 (by omega) F2.out.sz _ F2.out.rd F2.out.m rfl F2.out.ne).mono ?_
  rintro e w3 ⟨rfl, q1, q2, q3⟩
  have f := F2.out.step q1 (show Blk w3 M 36 (Msg.vs (m2.setXid (r2.num 8)) L) from q2) q3 (Rd.left_size r2 8)
  have F3 := Lib.hid f
  clear q1 q2 q3 f F2
  obtain ⟨m3, E3⟩ : ∃ x, Hid (x = (m2.setXid (r2.num 8))) := ⟨_, Lib.hid rfl⟩
  obtain ⟨r3, D3⟩ : ∃ x, Hid (x = (r2.left 8)) := ⟨_, Lib.hid rfl⟩
  rw [← E3.out, ← D3.out] at F3
  have ck3 : w3.cell? ⟨M, 0, none⟩ = some (.int .i64 ((ρ.num 1 : Nat) : Int)) := by
    refine (F3.out.m.cell 0 rfl).trans ?_
    rw [show m3.kind = ((ρ.num 1 : Nat) : Int) by rw [E3.out, E2.out, E1.out, D0.out]; rfl]
  go_wp2_with fail
  go_still_tail 8, (by kernel_rfl)
  change wpList _ _ _ _ _ w3.drew
  have F3 := Lib.hid F3.out.drew
  generalize w3.drew = w3 at F3 ⊢
  go_wp2_with fail
  refine (handle_r R M 4 36 (m3.vs L) _ _ _ _ r3 F3.out.sz _ F3.out.rd F3.out.m rfl rfl rfl rfl F3.out.ne).mono ?_
  rintro e w4 ⟨rfl, q1, q2, q3⟩
  have f := F3.out.step q1 (show Blk w4 M 36 (Msg.vs (m3.setH (decH (r3.took 28))) L) from q2) q3 (Rd.left_size r3 28)
  have F4 := Lib.hid f
  clear q1 q2 q3 f F3 ck3
  obtain ⟨m4, E4⟩ : ∃ x, Hid (x = (m3.setH (decH (r3.took 28)))) := ⟨_, Lib.hid rfl⟩
  obtain ⟨r4, D4⟩ : ∃ x, Hid (x = (r3.left 28)) := ⟨_, Lib.hid rfl⟩
  rw [← E4.out, ← D4.out] at F4
  go_wp2_with fail
  refine (stamp_r R M m4 L r4 _ F4.out.here).mono ?_
  rintro e w5 ⟨rfl, ⟨q1, q2, q3⟩⟩
  have f := F4.out.step q1 (show Blk w5 M 36 (Msg.vs (stampM r4 m4) L) from q2) q3 (stampR_size r4)
  have F5 := Lib.hid f
  clear q1 q2 q3 f F4
  obtain ⟨m5, E5⟩ : ∃ x, Hid (x = (stampM r4 m4)) := ⟨_, Lib.hid rfl⟩
  obtain ⟨r5, D5⟩ : ∃ x, Hid (x = (stampR r4)) := ⟨_, Lib.hid rfl⟩
  rw [← E5.out, ← D5.out] at F5
  go_wp2_with fail
  go_ret2
  have hp : RPost wI R M 36 (Msg.vs m5 L) r5 w5 := ⟨F5.out.rd, F5.out.m, F5.out.keep⟩
  rw [E5.out, D5.out, E4.out, D4.out, E3.out, D3.out, E2.out, D2.out, E1.out, D1.out, E0.out, D0.out] at hp
  exact ⟨rfl, hp⟩

def headM (ρ : Rd) : Msg := (((Msg.zero.setKind (ρ.num 1)).setClient ((ρ.left 1).num 4)).setXid (((ρ.left 1).left 4).num 8))
def headR (ρ : Rd) : Rd := (((ρ.left 1).left 4).left 8)
set_option maxHeartbeats 16000000 in
set_option maxRecDepth 100000 in
theorem fields_r_other (R M : Nat) (ρ : Rd) (wI : World) (hF : FR wI wI R M Msg.zero (.slice none 0 0) ρ) (hkind : ρ.num 1 ≠ 1 ∧ ρ.num 1 ≠ 2 ∧ ρ.num 1 ≠ 3 ∧ ρ.num 1 ≠ 4) :
    Calls Try.prog 32 #[.iface 90 (.pointer (some ⟨R, 0, none⟩)), .pointer (some ⟨M, 0, none⟩)] wI fun r w' => r = .returned (.tuple #[.bool false, .bool true]) ∧ RPost wI R M 36 (Msg.vs (headM ρ) (.slice none 0 0)) (headR ρ) w' := by
  unfold headM headR
  obtain ⟨m, hmz⟩ : ∃ x, x = Msg.zero := ⟨_, rfl⟩
  rw [← hmz] at hF
  have E00 := Lib.hid hmz
  generalize hL : (Value.slice none 0 0) = L at hF
  have kb1 : (((ρ.num 1 : Nat) : Int) == 1) = false := beq_eq_false_iff_ne.2 (by omega)
  have kb2 : (((ρ.num 1 : Nat) : Int) == 2) = false := beq_eq_false_iff_ne.2 (by omega)
  have kb3 : (((ρ.num 1 : Nat) : Int) == 3) = false := beq_eq_false_iff_ne.2 (by omega)
  have kb4 : (((ρ.num 1 : Nat) : Int) == 4) = false := beq_eq_false_iff_ne.2 (by omega)
  have HK := Lib.hid hkind
  clear hkind hmz
  have x1 := rm_number ⟨R, 0, none⟩; have x2 := rm_text ⟨R, 0, none⟩; have x3 := rm_handle ⟨R, 0, none⟩
  have y1 := rn_number ⟨R, 0, none⟩; have y2 := rn_text ⟨R, 0, none⟩; have y3 := rn_handle ⟨R, 0, none⟩
  obtain ⟨m0, E0⟩ : ∃ x, Hid (x = m) := ⟨_, Lib.hid rfl⟩
  obtain ⟨r0, D0⟩ : ∃ x, Hid (x = ρ) := ⟨_, Lib.hid rfl⟩
  rw [← E0.out, ← D0.out] at hF
  have F0 := Lib.hid hF
  clear hF
  have HL := Lib.hid hL
  have E0 := Lib.hid (E0.out.trans E00.out)
  clear hL
  go_enter Try.func32, Try.ntmps32
  go_wp2_with fail

  have HV0 := Lib.hid (show I64 m0.kind by rw [E0.out]; exact (⟨by decide, by decide⟩ : I64 0))
  refine (small_r R M 0 36 (m0.vs L) m0.kind r0 F0.out.sz HV0.out _ F0.out.rd F0.out.m rfl F0.out.ne).mono ?_
  rintro e w1 ⟨rfl, ⟨q1, q2, q3⟩⟩
  have f := F0.out.step q1 (show Blk w1 M 36 (Msg.vs (m0.setKind (r0.num 1)) L) from q2) q3 (Rd.left_size r0 1)
  have F1 := Lib.hid f
  clear q1 q2 q3 f F0
  obtain ⟨m1, E1⟩ : ∃ x, Hid (x = (m0.setKind (r0.num 1))) := ⟨_, Lib.hid rfl⟩
  obtain ⟨r1, D1⟩ : ∃ x, Hid (x = (r0.left 1)) := ⟨_, Lib.hid rfl⟩
  rw [← E1.out, ← D1.out] at F1
  go_wp2_with fail
  have HV1 := Lib.hid (show U32 m1.client by rw [E1.out, E0.out]; exact (⟨by decide, by decide⟩ : U32 0))
  refine (four_r R M 1 36 (m1.vs L) m1.client r1 F1.out.sz HV1.out _ F1.out.rd F1.out.m rfl F1.out.ne).mono ?_
  rintro e w2 ⟨rfl, ⟨q1, q2, q3⟩⟩
  have f := F1.out.step q1 (show Blk w2 M 36 (Msg.vs (m1.setClient (r1.num 4)) L) from q2) q3 (Rd.left_size r1 4)
  have F2 := Lib.hid f
  clear q1 q2 q3 f F1
  obtain ⟨m2, E2⟩ : ∃ x, Hid (x = (m1.setClient (r1.num 4))) := ⟨_, Lib.hid rfl⟩
  obtain ⟨r2, D2⟩ : ∃ x, Hid (x = (r1.left 4)) := ⟨_, Lib.hid rfl⟩
  rw [← E2.out, ← D2.out] at F2
  go_wp2_with fail
  go_still_tail 7, (by kernel_rfl)
  change wpList _ _ _ _ _ w2.drew
  have F2 := Lib.hid F2.out.drew
  generalize w2.drew = w2 at F2 ⊢
  go_wp2_with fail
  refine (number_r R M 2 36 (m2.vs L) m2.xid r2 8 (by omega) F2.out.sz _ F2.out.rd F2.out.m rfl F2.out.ne).mono ?_
  rintro e w3 ⟨rfl, q1, q2, q3⟩
  have f := F2.out.step q1 (show Blk w3 M 36 (Msg.vs (m2.setXid (r2.num 8)) L) from q2) q3 (Rd.left_size r2 8)
  have F3 := Lib.hid f
  clear q1 q2 q3 f F2
  obtain ⟨m3, E3⟩ : ∃ x, Hid (x = (m2.setXid (r2.num 8))) := ⟨_, Lib.hid rfl⟩
  obtain ⟨r3, D3⟩ : ∃ x, Hid (x = (r2.left 8)) := ⟨_, Lib.hid rfl⟩
  rw [← E3.out, ← D3.out] at F3
  have ck3 : w3.cell? ⟨M, 0, none⟩ = some (.int .i64 ((ρ.num 1 : Nat) : Int)) := by
    refine (F3.out.m.cell 0 rfl).trans ?_
    rw [show m3.kind = ((ρ.num 1 : Nat) : Int) by rw [E3.out, E2.out, E1.out, D0.out]; rfl]
  go_wp2_with fail
  go_ret2
  have hp : RPost wI R M 36 (Msg.vs m3 L) r3 w3 := ⟨F3.out.rd, F3.out.m, F3.out.keep⟩
  rw [E3.out, D3.out, E2.out, D2.out, E1.out, D1.out, E0.out, D0.out] at hp
  exact ⟨rfl, hp⟩

def flR (ρ : Rd) : Rd := (((((((((ρ.left 1).left 4).left 8).left 1).left 28).left 1).left 4).left 8).left 8).textR
def repM (ρ : Rd) : Msg := ((((((((((((Msg.zero.setKind (ρ.num 1)).setClient ((ρ.left 1).num 4)).setXid (((ρ.left 1).left 4).num 8)).setStatus ((((ρ.left 1).left 4).left 8).num 1)).setAh (decH (((((ρ.left 1).left 4).left 8).left 1).took 28))).setAkind ((((((ρ.left 1).left 4).left 8).left 1).left 28).num 1)).setLinks (((((((ρ.left 1).left 4).left 8).left 1).left 28).left 1).num 4)).setSize ((((((((ρ.left 1).left 4).left 8).left 1).left 28).left 1).left 4).num 8)).setChange (((((((((ρ.left 1).left 4).left 8).left 1).left 28).left 1).left 4).left 8).num 8)).setAdata ((((((((((ρ.left 1).left 4).left 8).left 1).left 28).left 1).left 4).left 8).left 8).textS (((((((((Msg.zero.setKind (ρ.num 1)).setClient ((ρ.left 1).num 4)).setXid (((ρ.left 1).left 4).num 8)).setStatus ((((ρ.left 1).left 4).left 8).num 1)).setAh (decH (((((ρ.left 1).left 4).left 8).left 1).took 28))).setAkind ((((((ρ.left 1).left 4).left 8).left 1).left 28).num 1)).setLinks (((((((ρ.left 1).left 4).left 8).left 1).left 28).left 1).num 4)).setSize ((((((((ρ.left 1).left 4).left 8).left 1).left 28).left 1).left 4).num 8)).setChange (((((((((ρ.left 1).left 4).left 8).left 1).left 28).left 1).left 4).left 8).num 8)).adata)).setEof (((((((((((ρ.left 1).left 4).left 8).left 1).left 28).left 1).left 4).left 8).left 8).textR.num 1 : Int) == 1)).setAnum (((((((((((ρ.left 1).left 4).left 8).left 1).left 28).left 1).left 4).left 8).left 8).textR.left 1).num 8))
def repR (ρ : Rd) : Rd := (((((((((((ρ.left 1).left 4).left 8).left 1).left 28).left 1).left 4).left 8).left 8).textR.left 1).left 8)
set_option maxHeartbeats 16000000 in
set_option maxRecDepth 100000 in
theorem fields_r_some (R M : Nat) (ρ : Rd) (wI : World) (hF : FR wI wI R M Msg.zero (.slice none 0 0) ρ) (hkind : ρ.num 1 = 2) (h1 : 1 ≤ (repR ρ).num 4 ∧ (repR ρ).num 4 ≤ 64) :
    Calls Try.prog 32 #[.iface 90 (.pointer (some ⟨R, 0, none⟩)), .pointer (some ⟨M, 0, none⟩)] wI fun r w' => r = .returned (.tuple #[.bool (decide (((flR ρ).num 1 : Int) < 2)), .bool true]) ∧ ∃ Lb, wI.heap.size ≤ Lb ∧ RdS w' R (stampR (((repR ρ).left 4).ents ((repR ρ).num 4)).2) ∧ Blk w' M 36 (Msg.vs (stampM (((repR ρ).left 4).ents ((repR ρ).num 4)).2 ((repM ρ).setList (((repR ρ).left 4).ents ((repR ρ).num 4)).1)) (.slice (some ⟨Lb, 0, none⟩) (((repR ρ).left 4).ents ((repR ρ).num 4)).1.length (((repR ρ).left 4).ents ((repR ρ).num 4)).1.length)) ∧ Blk w' Lb 99 ((((repR ρ).left 4).ents ((repR ρ).num 4)).1.flatMap Ent.vs) ∧ Keeps (fun k => k = R ∨ k = M) wI w' := by
  have H1 := Lib.hid h1
  clear h1
  obtain ⟨m, hmz⟩ : ∃ x, x = Msg.zero := ⟨_, rfl⟩
  rw [← hmz] at hF
  have E00 := Lib.hid hmz
  generalize hL : (Value.slice none 0 0) = L at hF
  have kb1 : (((ρ.num 1 : Nat) : Int) == 1) = false := beq_eq_false_iff_ne.2 (by omega)
  have kb2 : (((ρ.num 1 : Nat) : Int) == 2) = true := by rw [hkind]; rfl
  have kb3 : (((ρ.num 1 : Nat) : Int) == 3) = false := beq_eq_false_iff_ne.2 (by omega)
  have kb4 : (((ρ.num 1 : Nat) : Int) == 4) = false := beq_eq_false_iff_ne.2 (by omega)
  have HK := Lib.hid hkind
  clear hkind hmz
  have x1 := rm_number ⟨R, 0, none⟩; have x2 := rm_text ⟨R, 0, none⟩; have x3 := rm_handle ⟨R, 0, none⟩
  have y1 := rn_number ⟨R, 0, none⟩; have y2 := rn_text ⟨R, 0, none⟩; have y3 := rn_handle ⟨R, 0, none⟩
  obtain ⟨m0, E0⟩ : ∃ x, Hid (x = m) := ⟨_, Lib.hid rfl⟩
  obtain ⟨r0, D0⟩ : ∃ x, Hid (x = ρ) := ⟨_, Lib.hid rfl⟩
  rw [← E0.out, ← D0.out] at hF
  have F0 := Lib.hid hF
  clear hF
  have HL := Lib.hid hL
  have E0 := Lib.hid (E0.out.trans E00.out)
  clear hL
  go_enter Try.func32, Try.ntmps32
  go_wp2_with fail
  have HV0 := Lib.hid (show I64 m0.kind by rw [E0.out]; exact (⟨by decide, by decide⟩ : I64 0))
  refine (small_r R M 0 36 (m0.vs L) m0.kind r0 F0.out.sz HV0.out _ F0.out.rd F0.out.m rfl F0.out.ne).mono ?_
  rintro e w1 ⟨rfl, ⟨q1, q2, q3⟩⟩
  have f := F0.out.step q1 (show Blk w1 M 36 (Msg.vs (m0.setKind (r0.num 1)) L) from q2) q3 (Rd.left_size r0 1)
  have F1 := Lib.hid f
  clear q1 q2 q3 f F0
  obtain ⟨m1, E1⟩ : ∃ x, Hid (x = (m0.setKind (r0.num 1))) := ⟨_, Lib.hid rfl⟩
  obtain ⟨r1, D1⟩ : ∃ x, Hid (x = (r0.left 1)) := ⟨_, Lib.hid rfl⟩
  rw [← E1.out, ← D1.out] at F1
  go_wp2_with fail
  have HV1 := Lib.hid (show U32 m1.client by rw [E1.out, E0.out]; exact (⟨by decide, by decide⟩ : U32 0))
  refine (four_r R M 1 36 (m1.vs L) m1.client r1 F1.out.sz HV1.out _ F1.out.rd F1.out.m rfl F1.out.ne).mono ?_
  rintro e w2 ⟨rfl, ⟨q1, q2, q3⟩⟩
  have f := F1.out.step q1 (show Blk w2 M 36 (Msg.vs (m1.setClient (r1.num 4)) L) from q2) q3 (Rd.left_size r1 4)
  have F2 := Lib.hid f
  clear q1 q2 q3 f F1
  obtain ⟨m2, E2⟩ : ∃ x, Hid (x = (m1.setClient (r1.num 4))) := ⟨_, Lib.hid rfl⟩
  obtain ⟨r2, D2⟩ : ∃ x, Hid (x = (r1.left 4)) := ⟨_, Lib.hid rfl⟩
  rw [← E2.out, ← D2.out] at F2
  go_wp2_with fail
  go_still_tail 7, (by kernel_rfl)
  change wpList _ _ _ _ _ w2.drew
  have F2 := Lib.hid F2.out.drew
  generalize w2.drew = w2 at F2 ⊢
  go_wp2_with fail
  refine (number_r R M 2 36 (m2.vs L) m2.xid r2 8 (by omega) F2.out.sz _ F2.out.rd F2.out.m rfl F2.out.ne).mono ?_
  rintro e w3 ⟨rfl, q1, q2, q3⟩
  have f := F2.out.step q1 (show Blk w3 M 36 (Msg.vs (m2.setXid (r2.num 8)) L) from q2) q3 (Rd.left_size r2 8)
  have F3 := Lib.hid f
  clear q1 q2 q3 f F2
  obtain ⟨m3, E3⟩ : ∃ x, Hid (x = (m2.setXid (r2.num 8))) := ⟨_, Lib.hid rfl⟩
  obtain ⟨r3, D3⟩ : ∃ x, Hid (x = (r2.left 8)) := ⟨_, Lib.hid rfl⟩
  rw [← E3.out, ← D3.out] at F3
  have ck3 : w3.cell? ⟨M, 0, none⟩ = some (.int .i64 ((ρ.num 1 : Nat) : Int)) := by
    refine (F3.out.m.cell 0 rfl).trans ?_
    rw [show m3.kind = ((ρ.num 1 : Nat) : Int) by rw [E3.out, E2.out, E1.out, D0.out]; rfl]
  go_wp2_with fail
  have HV3 := Lib.hid (show I64 m3.status by rw [E3.out, E2.out, E1.out, E0.out]; exact (⟨by decide, by decide⟩ : I64 0))
  refine (small_r R M 17 36 (m3.vs L) m3.status r3 F3.out.sz HV3.out _ F3.out.rd F3.out.m rfl F3.out.ne).mono ?_
  rintro e w4 ⟨rfl, ⟨q1, q2, q3⟩⟩
  have f := F3.out.step q1 (show Blk w4 M 36 (Msg.vs (m3.setStatus (r3.num 1)) L) from q2) q3 (Rd.left_size r3 1)
  have F4 := Lib.hid f
  clear q1 q2 q3 f F3 ck3
  obtain ⟨m4, E4⟩ : ∃ x, Hid (x = (m3.setStatus (r3.num 1))) := ⟨_, Lib.hid rfl⟩
  obtain ⟨r4, D4⟩ : ∃ x, Hid (x = (r3.left 1)) := ⟨_, Lib.hid rfl⟩
  rw [← E4.out, ← D4.out] at F4
  go_wp2_with fail
  go_still_tail 7, (by kernel_rfl)
  change wpList _ _ _ _ _ w4.drew
  have F4 := Lib.hid F4.out.drew
  generalize w4.drew = w4 at F4 ⊢
  go_wp2_with fail
  refine (handle_r R M 18 36 (m4.vs L) _ _ _ _ r4 F4.out.sz _ F4.out.rd F4.out.m rfl rfl rfl rfl F4.out.ne).mono ?_
  rintro e w5 ⟨rfl, q1, q2, q3⟩
  have f := F4.out.step q1 (show Blk w5 M 36 (Msg.vs (m4.setAh (decH (r4.took 28))) L) from q2) q3 (Rd.left_size r4 28)
  have F5 := Lib.hid f
  clear q1 q2 q3 f F4
  obtain ⟨m5, E5⟩ : ∃ x, Hid (x = (m4.setAh (decH (r4.took 28)))) := ⟨_, Lib.hid rfl⟩
  obtain ⟨r5, D5⟩ : ∃ x, Hid (x = (r4.left 28)) := ⟨_, Lib.hid rfl⟩
  rw [← E5.out, ← D5.out] at F5
  go_wp2_with fail
  have HV5 := Lib.hid (show I64 m5.akind by rw [E5.out, E4.out, E3.out, E2.out, E1.out, E0.out]; exact (⟨by decide, by decide⟩ : I64 0))
  refine (small_r R M 22 36 (m5.vs L) m5.akind r5 F5.out.sz HV5.out _ F5.out.rd F5.out.m rfl F5.out.ne).mono ?_
  rintro e w6 ⟨rfl, ⟨q1, q2, q3⟩⟩
  have f := F5.out.step q1 (show Blk w6 M 36 (Msg.vs (m5.setAkind (r5.num 1)) L) from q2) q3 (Rd.left_size r5 1)
  have F6 := Lib.hid f
  clear q1 q2 q3 f F5
  obtain ⟨m6, E6⟩ : ∃ x, Hid (x = (m5.setAkind (r5.num 1))) := ⟨_, Lib.hid rfl⟩
  obtain ⟨r6, D6⟩ : ∃ x, Hid (x = (r5.left 1)) := ⟨_, Lib.hid rfl⟩
  rw [← E6.out, ← D6.out] at F6
  go_wp2_with fail
  have HV6 := Lib.hid (show U32 m6.links by rw [E6.out, E5.out, E4.out, E3.out, E2.out, E1.out, E0.out]; exact (⟨by decide, by decide⟩ : U32 0))
  refine (four_r R M 23 36 (m6.vs L) m6.links r6 F6.out.sz HV6.out _ F6.out.rd F6.out.m rfl F6.out.ne).mono ?_
  rintro e w7 ⟨rfl, ⟨q1, q2, q3⟩⟩
  have f := F6.out.step q1 (show Blk w7 M 36 (Msg.vs (m6.setLinks (r6.num 4)) L) from q2) q3 (Rd.left_size r6 4)
  have F7 := Lib.hid f
  clear q1 q2 q3 f F6
  obtain ⟨m7, E7⟩ : ∃ x, Hid (x = (m6.setLinks (r6.num 4))) := ⟨_, Lib.hid rfl⟩
  obtain ⟨r7, D7⟩ : ∃ x, Hid (x = (r6.left 4)) := ⟨_, Lib.hid rfl⟩
  rw [← E7.out, ← D7.out] at F7
  go_wp2_with fail
  go_still_tail 8, (by kernel_rfl)
  change wpList _ _ _ _ _ w7.drew
  have F7 := Lib.hid F7.out.drew
  generalize w7.drew = w7 at F7 ⊢
  go_wp2_with fail
  refine (number_r R M 24 36 (m7.vs L) m7.size r7 8 (by omega) F7.out.sz _ F7.out.rd F7.out.m rfl F7.out.ne).mono ?_
  rintro e w8 ⟨rfl, q1, q2, q3⟩
  have f := F7.out.step q1 (show Blk w8 M 36 (Msg.vs (m7.setSize (r7.num 8)) L) from q2) q3 (Rd.left_size r7 8)
  have F8 := Lib.hid f
  clear q1 q2 q3 f F7
  obtain ⟨m8, E8⟩ : ∃ x, Hid (x = (m7.setSize (r7.num 8))) := ⟨_, Lib.hid rfl⟩
  obtain ⟨r8, D8⟩ : ∃ x, Hid (x = (r7.left 8)) := ⟨_, Lib.hid rfl⟩
  rw [← E8.out, ← D8.out] at F8
  go_wp2_with fail
  go_still_tail 8, (by kernel_rfl)
  change wpList _ _ _ _ _ w8.drew
  have F8 := Lib.hid F8.out.drew
  generalize w8.drew = w8 at F8 ⊢
  go_wp2_with fail
  refine (number_r R M 25 36 (m8.vs L) m8.change r8 8 (by omega) F8.out.sz _ F8.out.rd F8.out.m rfl F8.out.ne).mono ?_
  rintro e w9 ⟨rfl, q1, q2, q3⟩
  have f := F8.out.step q1 (show Blk w9 M 36 (Msg.vs (m8.setChange (r8.num 8)) L) from q2) q3 (Rd.left_size r8 8)
  have F9 := Lib.hid f
  clear q1 q2 q3 f F8
  obtain ⟨m9, E9⟩ : ∃ x, Hid (x = (m8.setChange (r8.num 8))) := ⟨_, Lib.hid rfl⟩
  obtain ⟨r9, D9⟩ : ∃ x, Hid (x = (r8.left 8)) := ⟨_, Lib.hid rfl⟩
  rw [← E9.out, ← D9.out] at F9
  go_wp2_with fail
  go_still_tail 7, (by kernel_rfl)
  change wpList _ _ _ _ _ w9.drew
  have F9 := Lib.hid F9.out.drew
  generalize w9.drew = w9 at F9 ⊢
  go_wp2_with fail
  refine (text_r R M 26 36 (m9.vs L) m9.adata r9 F9.out.sz _ F9.out.rd F9.out.m rfl F9.out.ne).mono ?_
  rintro e w10 ⟨rfl, q1, q2, q3⟩
  have f := F9.out.step q1 (show Blk w10 M 36 (Msg.vs (m9.setAdata (r9.textS m9.adata)) L) from q2) q3 (Rd.textR_size r9)
  have F10 := Lib.hid f
  clear q1 q2 q3 f F9
  obtain ⟨m10, E10⟩ : ∃ x, Hid (x = (m9.setAdata (r9.textS m9.adata))) := ⟨_, Lib.hid rfl⟩
  obtain ⟨r10, D10⟩ : ∃ x, Hid (x = r9.textR) := ⟨_, Lib.hid rfl⟩
  rw [← E10.out, ← D10.out] at F10
  go_wp2_with fail
  have HV10 := Lib.hid (show m10.eof = false by rw [E10.out, E9.out, E8.out, E7.out, E6.out, E5.out, E4.out, E3.out, E2.out, E1.out, E0.out]; rfl)
  refine (flag_r R M 27 36 (m10.vs L) r10 F10.out.sz _ F10.out.rd F10.out.m (by show some (Value.bool m10.eof) = _; rw [HV10.out]) F10.out.ne).mono ?_
  rintro e w11 ⟨rfl, ⟨q1, q2, q3⟩⟩
  obtain ⟨fl, EF⟩ : ∃ x, Hid (x = decide ((r10.num 1 : Int) < 2)) := ⟨_, Lib.hid rfl⟩
  rw [← EF.out]
  have f := F10.out.step q1 (show Blk w11 M 36 (Msg.vs (m10.setEof ((r10.num 1 : Int) == 1)) L) from q2) q3 (Rd.left_size r10 1)
  have F11 := Lib.hid f
  clear q1 q2 q3 f F10
  obtain ⟨m11, E11⟩ : ∃ x, Hid (x = (m10.setEof ((r10.num 1 : Int) == 1))) := ⟨_, Lib.hid rfl⟩
  obtain ⟨r11, D11⟩ : ∃ x, Hid (x = (r10.left 1)) := ⟨_, Lib.hid rfl⟩
  rw [← E11.out, ← D11.out] at F11
  go_wp2_with fail
  go_still_tail 7, (by kernel_rfl)
  change wpList _ _ _ _ _ w11.drew
  have F11 := Lib.hid F11.out.drew
  generalize w11.drew = w11 at F11 ⊢
  go_wp2_with fail
  refine (number_r R M 28 36 (m11.vs L) m11.anum r11 8 (by omega) F11.out.sz _ F11.out.rd F11.out.m rfl F11.out.ne).mono ?_
  rintro e w12 ⟨rfl, q1, q2, q3⟩
  have f := F11.out.step q1 (show Blk w12 M 36 (Msg.vs (m11.setAnum (r11.num 8)) L) from q2) q3 (Rd.left_size r11 8)
  have F12 := Lib.hid f
  clear q1 q2 q3 f F11
  obtain ⟨m12, E12⟩ : ∃ x, Hid (x = (m11.setAnum (r11.num 8))) := ⟨_, Lib.hid rfl⟩
  obtain ⟨r12, D12⟩ : ∃ x, Hid (x = (r11.left 8)) := ⟨_, Lib.hid rfl⟩
  rw [← E12.out, ← D12.out] at F12
  have hrr : r12 = repR ρ := by rw [D12.out, D11.out, D10.out, D9.out, D8.out, D7.out, D6.out, D5.out, D4.out, D3.out, D2.out, D1.out, D0.out]; rfl
  have hmm : m12 = repM ρ := by rw [E12.out, D11.out, E11.out, D10.out, E10.out, D9.out, E9.out, D8.out, E8.out, D7.out, E7.out, D6.out, E6.out, D5.out, E5.out, D4.out, E4.out, D3.out, E3.out, D2.out, E2.out, D1.out, E1.out, D0.out, E0.out]; rfl
  have hfl : fl = decide (((flR ρ).num 1 : Int) < 2) := by rw [EF.out, D10.out, D9.out, D8.out, D7.out, D6.out, D5.out, D4.out, D3.out, D2.out, D1.out, D0.out]; rfl
  have HRR := Lib.hid hrr; have HMM := Lib.hid hmm; have HFL := Lib.hid hfl
  have hn : 1 ≤ r12.num 4 ∧ r12.num 4 ≤ 64 := by rw [hrr]; exact H1.out
  clear hrr hmm hfl E1 D1 E2 D2 E3 D3 E4 D4 E5 D5 E6 D6 E7 D7 E8 D8 E9 D9 E10 D10 E11 D11 E12 D12 EF
  go_wp2_with fail
  refine (list_r_some R M 29 36 (m12.vs L) r12 F12.out.sz _ F12.out.rd F12.out.m (by show some L = _; rw [HL.out]) F12.out.ne hn.1 hn.2).mono ?_
  rintro e w13 ⟨rfl, Lb, p1, p2, p3, p4, p5⟩
  have f := F12.out.step p2 (show Blk w13 M 36 (Msg.vs (m12.setList ((r12.left 4).ents (r12.num 4)).1) (.slice (some ⟨Lb, 0, none⟩) ((r12.left 4).ents (r12.num 4)).1.length ((r12.left 4).ents (r12.num 4)).1.length)) from p3) p5 (Nat.le_trans (Rd.ents_size (r12.left 4) (r12.num 4)) (Rd.left_size r12 4))
  have hLR : Lb ≠ R := by have := F12.out.rd.lt; omega
  have hLM : Lb ≠ M := by have := F12.out.m.lt; omega
  have HLw := Lib.hid (Nat.le_trans F12.out.keep.size p1)
  have EB := Lib.hid p4
  have F13 := Lib.hid f
  clear p1 p2 p3 p4 p5 f F12 hn
  obtain ⟨es, HE⟩ : ∃ x, Hid (((r12.left 4).ents (r12.num 4)).1 = x) := ⟨_, Lib.hid rfl⟩
  obtain ⟨r13, HR⟩ : ∃ x, Hid (((r12.left 4).ents (r12.num 4)).2 = x) := ⟨_, Lib.hid rfl⟩
  rw [HE.out] at EB F13
  rw [HR.out] at F13
  obtain ⟨m13, HM⟩ : ∃ x, Hid (m12.setList es = x) := ⟨_, Lib.hid rfl⟩
  rw [HM.out] at F13
  go_wp2_with fail
  refine (stamp_r R M m13 _ r13 _ F13.out.here).mono ?_
  rintro e w14 ⟨rfl, ⟨q1, q2, q3⟩⟩
  have EB2 := Lib.hid (EB.out.kept q3 (by rintro (e | e); exact hLR e; exact hLM e))
  have KK := Lib.hid (F13.out.keep.trans q3 (fun _ _ h => h))
  have Q1 := Lib.hid q1; have Q2 := Lib.hid q2
  clear q1 q2 q3 EB F13
  go_wp2_with fail
  go_ret2
  refine ⟨by first | (rw [HFL.out]; done) | (rw [HFL.out]; rfl) | (simp [HFL.out]; done), ?_⟩
  rw [← HRR.out, ← HMM.out, HE.out, HR.out, HM.out]
  exact ⟨Lb, HLw.out, Q1.out, Q2.out, EB2.out, KK.out⟩

set_option maxHeartbeats 16000000 in
set_option maxRecDepth 100000 in
theorem fields_r_none (R M : Nat) (ρ : Rd) (wI : World) (hF : FR wI wI R M Msg.zero (.slice none 0 0) ρ) (hkind : ρ.num 1 = 2) (h1 : (repR ρ).num 4 = 0) :
    Calls Try.prog 32 #[.iface 90 (.pointer (some ⟨R, 0, none⟩)), .pointer (some ⟨M, 0, none⟩)] wI fun r w' => r = .returned (.tuple #[.bool (decide (((flR ρ).num 1 : Int) < 2)), .bool true]) ∧ RPost wI R M 36 (Msg.vs (stampM ((repR ρ).left 4) (repM ρ)) (.slice none 0 0)) (stampR ((repR ρ).left 4)) w' := by
  have H1 := Lib.hid h1
  clear h1
  obtain ⟨m, hmz⟩ : ∃ x, x = Msg.zero := ⟨_, rfl⟩
  rw [← hmz] at hF
  have E00 := Lib.hid hmz
  generalize hL : (Value.slice none 0 0) = L at hF
  have kb1 : (((ρ.num 1 : Nat) : Int) == 1) = false := beq_eq_false_iff_ne.2 (by omega)
  have kb2 : (((ρ.num 1 : Nat) : Int) == 2) = true := by rw [hkind]; rfl
  have kb3 : (((ρ.num 1 : Nat) : Int) == 3) = false := beq_eq_false_iff_ne.2 (by omega)
  have kb4 : (((ρ.num 1 : Nat) : Int) == 4) = false := beq_eq_false_iff_ne.2 (by omega)
  have HK := Lib.hid hkind
  clear hkind hmz
  have x1 := rm_number ⟨R, 0, none⟩; have x2 := rm_text ⟨R, 0, none⟩; have x3 := rm_handle ⟨R, 0, none⟩
  have y1 := rn_number ⟨R, 0, none⟩; have y2 := rn_text ⟨R, 0, none⟩; have y3 := rn_handle ⟨R, 0, none⟩
  obtain ⟨m0, E0⟩ : ∃ x, Hid (x = m) := ⟨_, Lib.hid rfl⟩
  obtain ⟨r0, D0⟩ : ∃ x, Hid (x = ρ) := ⟨_, Lib.hid rfl⟩
  rw [← E0.out, ← D0.out] at hF
  have F0 := Lib.hid hF
  clear hF
  have HL := Lib.hid hL
  have E0 := Lib.hid (E0.out.trans E00.out)
  clear hL
  go_enter Try.func32, Try.ntmps32
  go_wp2_with fail
  have HV0 := Lib.hid (show I64 m0.kind by rw [E0.out]; exact (⟨by decide, by decide⟩ : I64 0))
  refine (small_r R M 0 36 (m0.vs L) m0.kind r0 F0.out.sz HV0.out _ F0.out.rd F0.out.m rfl F0.out.ne).mono ?_
  rintro e w1 ⟨rfl, ⟨q1, q2, q3⟩⟩
  have f := F0.out.step q1 (show Blk w1 M 36 (Msg.vs (m0.setKind (r0.num 1)) L) from q2) q3 (Rd.left_size r0 1)
  have F1 := Lib.hid f
  clear q1 q2 q3 f F0
  obtain ⟨m1, E1⟩ : ∃ x, Hid (x = (m0.setKind (r0.num 1))) := ⟨_, Lib.hid rfl⟩
  obtain ⟨r1, D1⟩ : ∃ x, Hid (x = (r0.left 1)) := ⟨_, Lib.hid rfl⟩
  rw [← E1.out, ← D1.out] at F1
  go_wp2_with fail
  have HV1 := Lib.hid (show U32 m1.client by rw [E1.out, E0.out]; exact (⟨by decide, by decide⟩ : U32 0))
  refine (four_r R M 1 36 (m1.vs L) m1.client r1 F1.out.sz HV1.out _ F1.out.rd F1.out.m rfl F1.out.ne).mono ?_
  rintro e w2 ⟨rfl, ⟨q1, q2, q3⟩⟩
  have f := F1.out.step q1 (show Blk w2 M 36 (Msg.vs (m1.setClient (r1.num 4)) L) from q2) q3 (Rd.left_size r1 4)
  have F2 := Lib.hid f
  clear q1 q2 q3 f F1
  obtain ⟨m2, E2⟩ : ∃ x, Hid (x = (m1.setClient (r1.num 4))) := ⟨_, Lib.hid rfl⟩
  obtain ⟨r2, D2⟩ : ∃ x, Hid (x = (r1.left 4)) := ⟨_, Lib.hid rfl⟩
  rw [← E2.out, ← D2.out] at F2
  go_wp2_with fail
  go_still_tail 7, (by kernel_rfl)
  change wpList _ _ _ _ _ w2.drew
  have F2 := Lib.hid F2.out.drew
  generalize w2.drew = w2 at F2 ⊢
  go_wp2_with fail
  refine (number_r R M 2 36 (m2.vs L) m2.xid r2 8 (by omega) F2.out.sz _ F2.out.rd F2.out.m rfl F2.out.ne).mono ?_
  rintro e w3 ⟨rfl, q1, q2, q3⟩
  have f := F2.out.step q1 (show Blk w3 M 36 (Msg.vs (m2.setXid (r2.num 8)) L) from q2) q3 (Rd.left_size r2 8)
  have F3 := Lib.hid f
  clear q1 q2 q3 f F2
  obtain ⟨m3, E3⟩ : ∃ x, Hid (x = (m2.setXid (r2.num 8))) := ⟨_, Lib.hid rfl⟩
  obtain ⟨r3, D3⟩ : ∃ x, Hid (x = (r2.left 8)) := ⟨_, Lib.hid rfl⟩
  rw [← E3.out, ← D3.out] at F3
  have ck3 : w3.cell? ⟨M, 0, none⟩ = some (.int .i64 ((ρ.num 1 : Nat) : Int)) := by
    refine (F3.out.m.cell 0 rfl).trans ?_
    rw [show m3.kind = ((ρ.num 1 : Nat) : Int) by rw [E3.out, E2.out, E1.out, D0.out]; rfl]
  go_wp2_with fail
  have HV3 := Lib.hid (show I64 m3.status by rw [E3.out, E2.out, E1.out, E0.out]; exact (⟨by decide, by decide⟩ : I64 0))
  refine (small_r R M 17 36 (m3.vs L) m3.status r3 F3.out.sz HV3.out _ F3.out.rd F3.out.m rfl F3.out.ne).mono ?_
  rintro e w4 ⟨rfl, ⟨q1, q2, q3⟩⟩
  have f := F3.out.step q1 (show Blk w4 M 36 (Msg.vs (m3.setStatus (r3.num 1)) L) from q2) q3 (Rd.left_size r3 1)
  have F4 := Lib.hid f
  clear q1 q2 q3 f F3 ck3
  obtain ⟨m4, E4⟩ : ∃ x, Hid (x = (m3.setStatus (r3.num 1))) := ⟨_, Lib.hid rfl⟩
  obtain ⟨r4, D4⟩ : ∃ x, Hid (x = (r3.left 1)) := ⟨_, Lib.hid rfl⟩
  rw [← E4.out, ← D4.out] at F4
  go_wp2_with fail
  go_still_tail 7, (by kernel_rfl)
  change wpList _ _ _ _ _ w4.drew
  have F4 := Lib.hid F4.out.drew
  generalize w4.drew = w4 at F4 ⊢
  go_wp2_with fail
  refine (handle_r R M 18 36 (m4.vs L) _ _ _ _ r4 F4.out.sz _ F4.out.rd F4.out.m rfl rfl rfl rfl F4.out.ne).mono ?_
  rintro e w5 ⟨rfl, q1, q2, q3⟩
  have f := F4.out.step q1 (show Blk w5 M 36 (Msg.vs (m4.setAh (decH (r4.took 28))) L) from q2) q3 (Rd.left_size r4 28)
  have F5 := Lib.hid f
  clear q1 q2 q3 f F4
  obtain ⟨m5, E5⟩ : ∃ x, Hid (x = (m4.setAh (decH (r4.took 28)))) := ⟨_, Lib.hid rfl⟩
  obtain ⟨r5, D5⟩ : ∃ x, Hid (x = (r4.left 28)) := ⟨_, Lib.hid rfl⟩
  rw [← E5.out, ← D5.out] at F5
  go_wp2_with fail
  have HV5 := Lib.hid (show I64 m5.akind by rw [E5.out, E4.out, E3.out, E2.out, E1.out, E0.out]; exact (⟨by decide, by decide⟩ : I64 0))
  refine (small_r R M 22 36 (m5.vs L) m5.akind r5 F5.out.sz HV5.out _ F5.out.rd F5.out.m rfl F5.out.ne).mono ?_
  rintro e w6 ⟨rfl, ⟨q1, q2, q3⟩⟩
  have f := F5.out.step q1 (show Blk w6 M 36 (Msg.vs (m5.setAkind (r5.num 1)) L) from q2) q3 (Rd.left_size r5 1)
  have F6 := Lib.hid f
  clear q1 q2 q3 f F5
  obtain ⟨m6, E6⟩ : ∃ x, Hid (x = (m5.setAkind (r5.num 1))) := ⟨_, Lib.hid rfl⟩
  obtain ⟨r6, D6⟩ : ∃ x, Hid (x = (r5.left 1)) := ⟨_, Lib.hid rfl⟩
  rw [← E6.out, ← D6.out] at F6
  go_wp2_with fail
  have HV6 := Lib.hid (show U32 m6.links by rw [E6.out, E5.out, E4.out, E3.out, E2.out, E1.out, E0.out]; exact (⟨by decide, by decide⟩ : U32 0))
  refine (four_r R M 23 36 (m6.vs L) m6.links r6 F6.out.sz HV6.out _ F6.out.rd F6.out.m rfl F6.out.ne).mono ?_
  rintro e w7 ⟨rfl, ⟨q1, q2, q3⟩⟩
  have f := F6.out.step q1 (show Blk w7 M 36 (Msg.vs (m6.setLinks (r6.num 4)) L) from q2) q3 (Rd.left_size r6 4)
  have F7 := Lib.hid f
  clear q1 q2 q3 f F6
  obtain ⟨m7, E7⟩ : ∃ x, Hid (x = (m6.setLinks (r6.num 4))) := ⟨_, Lib.hid rfl⟩
  obtain ⟨r7, D7⟩ : ∃ x, Hid (x = (r6.left 4)) := ⟨_, Lib.hid rfl⟩
  rw [← E7.out, ← D7.out] at F7
  go_wp2_with fail
  go_still_tail 8, (by kernel_rfl)
  change wpList _ _ _ _ _ w7.drew
  have F7 := Lib.hid F7.out.drew
  generalize w7.drew = w7 at F7 ⊢
  go_wp2_with fail
  refine (number_r R M 24 36 (m7.vs L) m7.size r7 8 (by omega) F7.out.sz _ F7.out.rd F7.out.m rfl F7.out.ne).mono ?_
  rintro e w8 ⟨rfl, q1, q2, q3⟩
  have f := F7.out.step q1 (show Blk w8 M 36 (Msg.vs (m7.setSize (r7.num 8)) L) from q2) q3 (Rd.left_size r7 8)
  have F8 := Lib.hid f
  clear q1 q2 q3 f F7
  obtain ⟨m8, E8⟩ : ∃ x, Hid (x = (m7.setSize (r7.num 8))) := ⟨_, Lib.hid rfl⟩
  obtain ⟨r8, D8⟩ : ∃ x, Hid (x = (r7.left 8)) := ⟨_, Lib.hid rfl⟩
  rw [← E8.out, ← D8.out] at F8
  go_wp2_with fail
  go_still_tail 8, (by kernel_rfl)
  change wpList _ _ _ _ _ w8.drew
  have F8 := Lib.hid F8.out.drew
  generalize w8.drew = w8 at F8 ⊢
  go_wp2_with fail
  refine (number_r R M 25 36 (m8.vs L) m8.change r8 8 (by omega) F8.out.sz _ F8.out.rd F8.out.m rfl F8.out.ne).mono ?_
  rintro e w9 ⟨rfl, q1, q2, q3⟩
  have f := F8.out.step q1 (show Blk w9 M 36 (Msg.vs (m8.setChange (r8.num 8)) L) from q2) q3 (Rd.left_size r8 8)
  have F9 := Lib.hid f
  clear q1 q2 q3 f F8
  obtain ⟨m9, E9⟩ : ∃ x, Hid (x = (m8.setChange (r8.num 8))) := ⟨_, Lib.hid rfl⟩
  obtain ⟨r9, D9⟩ : ∃ x, Hid (x = (r8.left 8)) := ⟨_, Lib.hid rfl⟩
  rw [← E9.out, ← D9.out] at F9
  go_wp2_with fail
  go_still_tail 7, (by kernel_rfl)
  change wpList _ _ _ _ _ w9.drew
  have F9 := Lib.hid F9.out.drew
  generalize w9.drew = w9 at F9 ⊢
  go_wp2_with fail
  refine (text_r R M 26 36 (m9.vs L) m9.adata r9 F9.out.sz _ F9.out.rd F9.out.m rfl F9.out.ne).mono ?_
  rintro e w10 ⟨rfl, q1, q2, q3⟩
  have f := F9.out.step q1 (show Blk w10 M 36 (Msg.vs (m9.setAdata (r9.textS m9.adata)) L) from q2) q3 (Rd.textR_size r9)
  have F10 := Lib.hid f
  clear q1 q2 q3 f F9
  obtain ⟨m10, E10⟩ : ∃ x, Hid (x = (m9.setAdata (r9.textS m9.adata))) := ⟨_, Lib.hid rfl⟩
  obtain ⟨r10, D10⟩ : ∃ x, Hid (x = r9.textR) := ⟨_, Lib.hid rfl⟩
  rw [← E10.out, ← D10.out] at F10
  go_wp2_with fail
  have HV10 := Lib.hid (show m10.eof = false by rw [E10.out, E9.out, E8.out, E7.out, E6.out, E5.out, E4.out, E3.out, E2.out, E1.out, E0.out]; rfl)
  refine (flag_r R M 27 36 (m10.vs L) r10 F10.out.sz _ F10.out.rd F10.out.m (by show some (Value.bool m10.eof) = _; rw [HV10.out]) F10.out.ne).mono ?_
  rintro e w11 ⟨rfl, ⟨q1, q2, q3⟩⟩
  obtain ⟨fl, EF⟩ : ∃ x, Hid (x = decide ((r10.num 1 : Int) < 2)) := ⟨_, Lib.hid rfl⟩
  rw [← EF.out]
  have f := F10.out.step q1 (show Blk w11 M 36 (Msg.vs (m10.setEof ((r10.num 1 : Int) == 1)) L) from q2) q3 (Rd.left_size r10 1)
  have F11 := Lib.hid f
  clear q1 q2 q3 f F10
  obtain ⟨m11, E11⟩ : ∃ x, Hid (x = (m10.setEof ((r10.num 1 : Int) == 1))) := ⟨_, Lib.hid rfl⟩
  obtain ⟨r11, D11⟩ : ∃ x, Hid (x = (r10.left 1)) := ⟨_, Lib.hid rfl⟩
  rw [← E11.out, ← D11.out] at F11
  go_wp2_with fail
  go_still_tail 7, (by kernel_rfl)
  change wpList _ _ _ _ _ w11.drew
  have F11 := Lib.hid F11.out.drew
  generalize w11.drew = w11 at F11 ⊢
  go_wp2_with fail
  refine (number_r R M 28 36 (m11.vs L) m11.anum r11 8 (by omega) F11.out.sz _ F11.out.rd F11.out.m rfl F11.out.ne).mono ?_
  rintro e w12 ⟨rfl, q1, q2, q3⟩
  have f := F11.out.step q1 (show Blk w12 M 36 (Msg.vs (m11.setAnum (r11.num 8)) L) from q2) q3 (Rd.left_size r11 8)
  have F12 := Lib.hid f
  clear q1 q2 q3 f F11
  obtain ⟨m12, E12⟩ : ∃ x, Hid (x = (m11.setAnum (r11.num 8))) := ⟨_, Lib.hid rfl⟩
  obtain ⟨r12, D12⟩ : ∃ x, Hid (x = (r11.left 8)) := ⟨_, Lib.hid rfl⟩
  rw [← E12.out, ← D12.out] at F12
  have hrr : r12 = repR ρ := by rw [D12.out, D11.out, D10.out, D9.out, D8.out, D7.out, D6.out, D5.out, D4.out, D3.out, D2.out, D1.out, D0.out]; rfl
  have hmm : m12 = repM ρ := by rw [E12.out, D11.out, E11.out, D10.out, E10.out, D9.out, E9.out, D8.out, E8.out, D7.out, E7.out, D6.out, E6.out, D5.out, E5.out, D4.out, E4.out, D3.out, E3.out, D2.out, E2.out, D1.out, E1.out, D0.out, E0.out]; rfl
  have hfl : fl = decide (((flR ρ).num 1 : Int) < 2) := by rw [EF.out, D10.out, D9.out, D8.out, D7.out, D6.out, D5.out, D4.out, D3.out, D2.out, D1.out, D0.out]; rfl
  have HRR := Lib.hid hrr; have HMM := Lib.hid hmm; have HFL := Lib.hid hfl
  have hn : r12.num 4 = 0 := by rw [hrr]; exact H1.out
  clear hrr hmm hfl E1 D1 E2 D2 E3 D3 E4 D4 E5 D5 E6 D6 E7 D7 E8 D8 E9 D9 E10 D10 E11 D11 E12 D12 EF
  go_wp2_with fail
  refine (list_r_none R M 29 36 (m12.vs L) r12 F12.out.sz _ F12.out.rd F12.out.m (by show some L = _; rw [HL.out]) F12.out.ne hn).mono ?_
  rintro e w13 ⟨rfl, ⟨q1, q2, q3⟩⟩
  have F13 := Lib.hid (F12.out.step q1 q2 q3 (Rd.left_size r12 4))
  clear q1 q2 q3 F12 hn
  go_wp2_with fail
  refine (stamp_r R M m12 L (r12.left 4) _ F13.out.here).mono ?_
  rintro e w14 ⟨rfl, ⟨q1, q2, q3⟩⟩
  have KK := Lib.hid (F13.out.keep.trans q3 (fun _ _ h => h))
  have Q1 := Lib.hid q1; have Q2 := Lib.hid q2
  clear q1 q2 q3 F13
  go_wp2_with fail
  go_ret2
  refine ⟨by first | (rw [HFL.out]; done) | (rw [HFL.out]; rfl) | (simp [HFL.out]; done), ?_⟩
  rw [← HRR.out, ← HMM.out]
  exact ⟨Q1.out, Q2.out, KK.out⟩

set_option maxHeartbeats 16000000 in
set_option maxRecDepth 100000 in
theorem fields_r_long (R M : Nat) (ρ : Rd) (wI : World) (hF : FR wI wI R M Msg.zero (.slice none 0 0) ρ) (hkind : ρ.num 1 = 2) (h1 : ¬ (repR ρ).num 4 ≤ 64) :
    Calls Try.prog 32 #[.iface 90 (.pointer (some ⟨R, 0, none⟩)), .pointer (some ⟨M, 0, none⟩)] wI fun r w' => r = .returned (.tuple #[.bool (decide (((flR ρ).num 1 : Int) < 2)), .bool false]) ∧ RPost wI R M 36 (Msg.vs (repM ρ) (.slice none 0 0)) ((repR ρ).left 4) w' := by
  have H1 := Lib.hid h1
  clear h1
  obtain ⟨m, hmz⟩ : ∃ x, x = Msg.zero := ⟨_, rfl⟩
  rw [← hmz] at hF
  have E00 := Lib.hid hmz
  generalize hL : (Value.slice none 0 0) = L at hF
  have kb1 : (((ρ.num 1 : Nat) : Int) == 1) = false := beq_eq_false_iff_ne.2 (by omega)
  have kb2 : (((ρ.num 1 : Nat) : Int) == 2) = true := by rw [hkind]; rfl
  have kb3 : (((ρ.num 1 : Nat) : Int) == 3) = false := beq_eq_false_iff_ne.2 (by omega)
  have kb4 : (((ρ.num 1 : Nat) : Int) == 4) = false := beq_eq_false_iff_ne.2 (by omega)
  have HK := Lib.hid hkind
  clear hkind hmz
  have x1 := rm_number ⟨R, 0, none⟩; have x2 := rm_text ⟨R, 0, none⟩; have x3 := rm_handle ⟨R, 0, none⟩
  have y1 := rn_number ⟨R, 0, none⟩; have y2 := rn_text ⟨R, 0, none⟩; have y3 := rn_handle ⟨R, 0, none⟩
  obtain ⟨m0, E0⟩ : ∃ x, Hid (x = m) := ⟨_, Lib.hid rfl⟩
  obtain ⟨r0, D0⟩ : ∃ x, Hid (x = ρ) := ⟨_, Lib.hid rfl⟩
  rw [← E0.out, ← D0.out] at hF
  have F0 := Lib.hid hF
  clear hF
  have HL := Lib.hid hL
  have E0 := Lib.hid (E0.out.trans E00.out)
  clear hL
  go_enter Try.func32, Try.ntmps32
  go_wp2_with fail
  have HV0 := Lib.hid (show I64 m0.kind by rw [E0.out]; exact (⟨by decide, by decide⟩ : I64 0))
  refine (small_r R M 0 36 (m0.vs L) m0.kind r0 F0.out.sz HV0.out _ F0.out.rd F0.out.m rfl F0.out.ne).mono ?_
  rintro e w1 ⟨rfl, ⟨q1, q2, q3⟩⟩
  have f := F0.out.step q1 (show Blk w1 M 36 (Msg.vs (m0.setKind (r0.num 1)) L) from q2) q3 (Rd.left_size r0 1)
  have F1 := Lib.hid f
  clear q1 q2 q3 f F0
  obtain ⟨m1, E1⟩ : ∃ x, Hid (x = (m0.setKind (r0.num 1))) := ⟨_, Lib.hid rfl⟩
  obtain ⟨r1, D1⟩ : ∃ x, Hid (x = (r0.left 1)) := ⟨_, Lib.hid rfl⟩
  rw [← E1.out, ← D1.out] at F1
  go_wp2_with fail
  have HV1 := Lib.hid (show U32 m1.client by rw [E1.out, E0.out]; exact (⟨by decide, by decide⟩ : U32 0))
  refine (four_r R M 1 36 (m1.vs L) m1.client r1 F1.out.sz HV1.out _ F1.out.rd F1.out.m rfl F1.out.ne).mono ?_
  rintro e w2 ⟨rfl, ⟨q1, q2, q3⟩⟩
  have f := F1.out.step q1 (show Blk w2 M 36 (Msg.vs (m1.setClient (r1.num 4)) L) from q2) q3 (Rd.left_size r1 4)
  have F2 := Lib.hid f
  clear q1 q2 q3 f F1
  obtain ⟨m2, E2⟩ : ∃ x, Hid (x = (m1.setClient (r1.num 4))) := ⟨_, Lib.hid rfl⟩
  obtain ⟨r2, D2⟩ : ∃ x, Hid (x = (r1.left 4)) := ⟨_, Lib.hid rfl⟩
  rw [← E2.out, ← D2.out] at F2
  go_wp2_with fail
  go_still_tail 7, (by kernel_rfl)
  change wpList _ _ _ _ _ w2.drew
  have F2 := Lib.hid F2.out.drew
  generalize w2.drew = w2 at F2 ⊢
  go_wp2_with fail
  refine (number_r R M 2 36 (m2.vs L) m2.xid r2 8 (by omega) F2.out.sz _ F2.out.rd F2.out.m rfl F2.out.ne).mono ?_
  rintro e w3 ⟨rfl, q1, q2, q3⟩
  have f := F2.out.step q1 (show Blk w3 M 36 (Msg.vs (m2.setXid (r2.num 8)) L) from q2) q3 (Rd.left_size r2 8)
  have F3 := Lib.hid f
  clear q1 q2 q3 f F2
  obtain ⟨m3, E3⟩ : ∃ x, Hid (x = (m2.setXid (r2.num 8))) := ⟨_, Lib.hid rfl⟩
  obtain ⟨r3, D3⟩ : ∃ x, Hid (x = (r2.left 8)) := ⟨_, Lib.hid rfl⟩
  rw [← E3.out, ← D3.out] at F3
  have ck3 : w3.cell? ⟨M, 0, none⟩ = some (.int .i64 ((ρ.num 1 : Nat) : Int)) := by
    refine (F3.out.m.cell 0 rfl).trans ?_
    rw [show m3.kind = ((ρ.num 1 : Nat) : Int) by rw [E3.out, E2.out, E1.out, D0.out]; rfl]
  go_wp2_with fail
  have HV3 := Lib.hid (show I64 m3.status by rw [E3.out, E2.out, E1.out, E0.out]; exact (⟨by decide, by decide⟩ : I64 0))
  refine (small_r R M 17 36 (m3.vs L) m3.status r3 F3.out.sz HV3.out _ F3.out.rd F3.out.m rfl F3.out.ne).mono ?_
  rintro e w4 ⟨rfl, ⟨q1, q2, q3⟩⟩
  have f := F3.out.step q1 (show Blk w4 M 36 (Msg.vs (m3.setStatus (r3.num 1)) L) from q2) q3 (Rd.left_size r3 1)
  have F4 := Lib.hid f
  clear q1 q2 q3 f F3 ck3
  obtain ⟨m4, E4⟩ : ∃ x, Hid (x = (m3.setStatus (r3.num 1))) := ⟨_, Lib.hid rfl⟩
  obtain ⟨r4, D4⟩ : ∃ x, Hid (x = (r3.left 1)) := ⟨_, Lib.hid rfl⟩
  rw [← E4.out, ← D4.out] at F4
  go_wp2_with fail
  go_still_tail 7, (by kernel_rfl)
  change wpList _ _ _ _ _ w4.drew
  have F4 := Lib.hid F4.out.drew
  generalize w4.drew = w4 at F4 ⊢
  go_wp2_with fail
  refine (handle_r R M 18 36 (m4.vs L) _ _ _ _ r4 F4.out.sz _ F4.out.rd F4.out.m rfl rfl rfl rfl F4.out.ne).mono ?_
  rintro e w5 ⟨rfl, q1, q2, q3⟩
  have f := F4.out.step q1 (show Blk w5 M 36 (Msg.vs (m4.setAh (decH (r4.took 28))) L) from q2) q3 (Rd.left_size r4 28)
  have F5 := Lib.hid f
  clear q1 q2 q3 f F4
  obtain ⟨m5, E5⟩ : ∃ x, Hid (x = (m4.setAh (decH (r4.took 28)))) := ⟨_, Lib.hid rfl⟩
  obtain ⟨r5, D5⟩ : ∃ x, Hid (x = (r4.left 28)) := ⟨_, Lib.hid rfl⟩
  rw [← E5.out, ← D5.out] at F5
  go_wp2_with fail
  have HV5 := Lib.hid (show I64 m5.akind by rw [E5.out, E4.out, E3.out, E2.out, E1.out, E0.out]; exact (⟨by decide, by decide⟩ : I64 0))
  refine (small_r R M 22 36 (m5.vs L) m5.akind r5 F5.out.sz HV5.out _ F5.out.rd F5.out.m rfl F5.out.ne).mono ?_
  rintro e w6 ⟨rfl, ⟨q1, q2, q3⟩⟩
  have f := F5.out.step q1 (show Blk w6 M 36 (Msg.vs (m5.setAkind (r5.num 1)) L) from q2) q3 (Rd.left_size r5 1)
  have F6 := Lib.hid f
  clear q1 q2 q3 f F5
  obtain ⟨m6, E6⟩ : ∃ x, Hid (x = (m5.setAkind (r5.num 1))) := ⟨_, Lib.hid rfl⟩
  obtain ⟨r6, D6⟩ : ∃ x, Hid (x = (r5.left 1)) := ⟨_, Lib.hid rfl⟩
  rw [← E6.out, ← D6.out] at F6
  go_wp2_with fail
  have HV6 := Lib.hid (show U32 m6.links by rw [E6.out, E5.out, E4.out, E3.out, E2.out, E1.out, E0.out]; exact (⟨by decide, by decide⟩ : U32 0))
  refine (four_r R M 23 36 (m6.vs L) m6.links r6 F6.out.sz HV6.out _ F6.out.rd F6.out.m rfl F6.out.ne).mono ?_
  rintro e w7 ⟨rfl, ⟨q1, q2, q3⟩⟩
  have f := F6.out.step q1 (show Blk w7 M 36 (Msg.vs (m6.setLinks (r6.num 4)) L) from q2) q3 (Rd.left_size r6 4)
  have F7 := Lib.hid f
  clear q1 q2 q3 f F6
  obtain ⟨m7, E7⟩ : ∃ x, Hid (x = (m6.setLinks (r6.num 4))) := ⟨_, Lib.hid rfl⟩
  obtain ⟨r7, D7⟩ : ∃ x, Hid (x = (r6.left 4)) := ⟨_, Lib.hid rfl⟩
  rw [← E7.out, ← D7.out] at F7
  go_wp2_with fail
  go_still_tail 8, (by kernel_rfl)
  change wpList _ _ _ _ _ w7.drew
  have F7 := Lib.hid F7.out.drew
  generalize w7.drew = w7 at F7 ⊢
  go_wp2_with fail
  refine (number_r R M 24 36 (m7.vs L) m7.size r7 8 (by omega) F7.out.sz _ F7.out.rd F7.out.m rfl F7.out.ne).mono ?_
  rintro e w8 ⟨rfl, q1, q2, q3⟩
  have f := F7.out.step q1 (show Blk w8 M 36 (Msg.vs (m7.setSize (r7.num 8)) L) from q2) q3 (Rd.left_size r7 8)
  have F8 := Lib.hid f
  clear q1 q2 q3 f F7
  obtain ⟨m8, E8⟩ : ∃ x, Hid (x = (m7.setSize (r7.num 8))) := ⟨_, Lib.hid rfl⟩
  obtain ⟨r8, D8⟩ : ∃ x, Hid (x = (r7.left 8)) := ⟨_, Lib.hid rfl⟩
  rw [← E8.out, ← D8.out] at F8
  go_wp2_with fail
  go_still_tail 8, (by kernel_rfl)
  change wpList _ _ _ _ _ w8.drew
  have F8 := Lib.hid F8.out.drew
  generalize w8.drew = w8 at F8 ⊢
  go_wp2_with fail
  refine (number_r R M 25 36 (m8.vs L) m8.change r8 8 (by omega) F8.out.sz _ F8.out.rd F8.out.m rfl F8.out.ne).mono ?_
  rintro e w9 ⟨rfl, q1, q2, q3⟩
  have f := F8.out.step q1 (show Blk w9 M 36 (Msg.vs (m8.setChange (r8.num 8)) L) from q2) q3 (Rd.left_size r8 8)
  have F9 := Lib.hid f
  clear q1 q2 q3 f F8
  obtain ⟨m9, E9⟩ : ∃ x, Hid (x = (m8.setChange (r8.num 8))) := ⟨_, Lib.hid rfl⟩
  obtain ⟨r9, D9⟩ : ∃ x, Hid (x = (r8.left 8)) := ⟨_, Lib.hid rfl⟩
  rw [← E9.out, ← D9.out] at F9
  go_wp2_with fail
  go_still_tail 7, (by kernel_rfl)
  change wpList _ _ _ _ _ w9.drew
  have F9 := Lib.hid F9.out.drew
  generalize w9.drew = w9 at F9 ⊢
  go_wp2_with fail
  refine (text_r R M 26 36 (m9.vs L) m9.adata r9 F9.out.sz _ F9.out.rd F9.out.m rfl F9.out.ne).mono ?_
  rintro e w10 ⟨rfl, q1, q2, q3⟩
  have f := F9.out.step q1 (show Blk w10 M 36 (Msg.vs (m9.setAdata (r9.textS m9.adata)) L) from q2) q3 (Rd.textR_size r9)
  have F10 := Lib.hid f
  clear q1 q2 q3 f F9
  obtain ⟨m10, E10⟩ : ∃ x, Hid (x = (m9.setAdata (r9.textS m9.adata))) := ⟨_, Lib.hid rfl⟩
  obtain ⟨r10, D10⟩ : ∃ x, Hid (x = r9.textR) := ⟨_, Lib.hid rfl⟩
  rw [← E10.out, ← D10.out] at F10
  go_wp2_with fail
  have HV10 := Lib.hid (show m10.eof = false by rw [E10.out, E9.out, E8.out, E7.out, E6.out, E5.out, E4.out, E3.out, E2.out, E1.out, E0.out]; rfl)
  refine (flag_r R M 27 36 (m10.vs L) r10 F10.out.sz _ F10.out.rd F10.out.m (by show some (Value.bool m10.eof) = _; rw [HV10.out]) F10.out.ne).mono ?_
  rintro e w11 ⟨rfl, ⟨q1, q2, q3⟩⟩
  obtain ⟨fl, EF⟩ : ∃ x, Hid (x = decide ((r10.num 1 : Int) < 2)) := ⟨_, Lib.hid rfl⟩
  rw [← EF.out]
  have f := F10.out.step q1 (show Blk w11 M 36 (Msg.vs (m10.setEof ((r10.num 1 : Int) == 1)) L) from q2) q3 (Rd.left_size r10 1)
  have F11 := Lib.hid f
  clear q1 q2 q3 f F10
  obtain ⟨m11, E11⟩ : ∃ x, Hid (x = (m10.setEof ((r10.num 1 : Int) == 1))) := ⟨_, Lib.hid rfl⟩
  obtain ⟨r11, D11⟩ : ∃ x, Hid (x = (r10.left 1)) := ⟨_, Lib.hid rfl⟩
  rw [← E11.out, ← D11.out] at F11
  go_wp2_with fail
  go_still_tail 7, (by kernel_rfl)
  change wpList _ _ _ _ _ w11.drew
  have F11 := Lib.hid F11.out.drew
  generalize w11.drew = w11 at F11 ⊢
  go_wp2_with fail
  refine (number_r R M 28 36 (m11.vs L) m11.anum r11 8 (by omega) F11.out.sz _ F11.out.rd F11.out.m rfl F11.out.ne).mono ?_
  rintro e w12 ⟨rfl, q1, q2, q3⟩
  have f := F11.out.step q1 (show Blk w12 M 36 (Msg.vs (m11.setAnum (r11.num 8)) L) from q2) q3 (Rd.left_size r11 8)
  have F12 := Lib.hid f
  clear q1 q2 q3 f F11
  obtain ⟨m12, E12⟩ : ∃ x, Hid (x = (m11.setAnum (r11.num 8))) := ⟨_, Lib.hid rfl⟩
  obtain ⟨r12, D12⟩ : ∃ x, Hid (x = (r11.left 8)) := ⟨_, Lib.hid rfl⟩
  rw [← E12.out, ← D12.out] at F12
  have hrr : r12 = repR ρ := by rw [D12.out, D11.out, D10.out, D9.out, D8.out, D7.out, D6.out, D5.out, D4.out, D3.out, D2.out, D1.out, D0.out]; rfl
  have hmm : m12 = repM ρ := by rw [E12.out, D11.out, E11.out, D10.out, E10.out, D9.out, E9.out, D8.out, E8.out, D7.out, E7.out, D6.out, E6.out, D5.out, E5.out, D4.out, E4.out, D3.out, E3.out, D2.out, E2.out, D1.out, E1.out, D0.out, E0.out]; rfl
  have hfl : fl = decide (((flR ρ).num 1 : Int) < 2) := by rw [EF.out, D10.out, D9.out, D8.out, D7.out, D6.out, D5.out, D4.out, D3.out, D2.out, D1.out, D0.out]; rfl
  have HRR := Lib.hid hrr; have HMM := Lib.hid hmm; have HFL := Lib.hid hfl
  have hn : ¬ r12.num 4 ≤ 64 := by rw [hrr]; exact H1.out
  clear hrr hmm hfl E1 D1 E2 D2 E3 D3 E4 D4 E5 D5 E6 D6 E7 D7 E8 D8 E9 D9 E10 D10 E11 D11 E12 D12 EF
  go_wp2_with fail
  refine (list_r_long R M 29 36 (m12.vs L) r12 F12.out.sz _ F12.out.rd F12.out.m (by show some L = _; rw [HL.out]) F12.out.ne hn).mono ?_
  rintro e w13 ⟨rfl, ⟨q1, q2, q3⟩⟩
  have F13 := Lib.hid (F12.out.step q1 q2 q3 (Rd.left_size r12 4))
  clear q1 q2 q3 F12 hn
  go_wp2_with fail
  go_ret2
  refine ⟨by first | (rw [HFL.out]; done) | (rw [HFL.out]; rfl) | (simp [HFL.out]; done), ?_⟩
  rw [← HRR.out, ← HMM.out]
  exact ⟨F13.out.rd, F13.out.m, F13.out.keep⟩

end Go.Proofs.Ytibcadfpengacaa
