/- The data of packets, how they read, what they own, and the contracts of the laws' helper functions over them. No condition but the bounds that each theorem names. -/
import Derived.Test.YtjjoijidlgkimaaTyPartM
import Derived.Test.YtjjoijidlgkimaaTyByte
namespace Go.Proofs.Ytjjoijidlgkimaa
open Go.ChangeShapes Go.WideShapes Go.ChangeAt Go.RowKit Go.Deep

theorem blk10 {w : World} {b : Nat} {x0 x1 x2 x3 x4 x5 x6 x7 x8 x9 : Value} {t : TypeId} {f : Nat × Nat} (h : w.heap[b]? = some (.cells #[x0, x1, x2, x3, x4, x5, x6, x7, x8, x9] t f)) :
    w.cell? ⟨b, 0, none⟩ = some x0 ∧ w.cell? ⟨b, 1, none⟩ = some x1 ∧ w.cell? ⟨b, 2, none⟩ = some x2 ∧ w.cell? ⟨b, 3, none⟩ = some x3 ∧ w.cell? ⟨b, 4, none⟩ = some x4 ∧ w.cell? ⟨b, 5, none⟩ = some x5 ∧ w.cell? ⟨b, 6, none⟩ = some x6 ∧ w.cell? ⟨b, 7, none⟩ = some x7 ∧ w.cell? ⟨b, 8, none⟩ = some x8 ∧ w.cell? ⟨b, 9, none⟩ = some x9 :=
  ⟨blk_cell h 0, blk_cell h 1, blk_cell h 2, blk_cell h 3, blk_cell h 4, blk_cell h 5, blk_cell h 6, blk_cell h 7, blk_cell h 8, blk_cell h 9⟩
theorem len10 {α : Type} : ∀ {cs : List α}, cs.length = 10 → ∃ a0 a1 a2 a3 a4 a5 a6 a7 a8 a9, cs = [a0, a1, a2, a3, a4, a5, a6, a7, a8, a9]
  | [a0, a1, a2, a3, a4, a5, a6, a7, a8, a9], _ => ⟨a0, a1, a2, a3, a4, a5, a6, a7, a8, a9, rfl⟩
theorem Chg.setCell {S : Nat → Prop} {a b : World} (h : Chg S a b) {p : Addr} (hp : S p.block) (u : Value) : Chg S a (b.setCell p u) :=
  h.trans ⟨rfl, rfl, rfl, by simp, fun k _ hn => Below.heap_setCell _ _ _ _ (fun e => hn (by rw [e]; exact hp))⟩
structure Pkt where
  kind : Int
  src : Int
  dst : Int
  path : Pth
  pi : Int
  hi : Int
  beta : Int
  rid : Int
  seq : Int
  pay : List Int
  deriving DecidableEq
def Pkt.c (x : Pkt) (h0 h1 : Value) : List Value := [.int .i64 x.kind, .int .i64 x.src, .int .i64 x.dst, h0, .int .i64 x.pi, .int .i64 x.hi, .int .i64 x.beta, .int .i64 x.rid, .int .i64 x.seq, h1]
def Pkt.size (x : Pkt) : Nat := x.path.size + x.pay.length
def Pkt.rep : Rep Pkt where
  cells := 10
  rd w cs x := ∃ v0 v1, cs = [.int .i64 x.kind, .int .i64 x.src, .int .i64 x.dst, v0, .int .i64 x.pi, .int .i64 x.hi, .int .i64 x.beta, .int .i64 x.rid, .int .i64 x.seq, v1] ∧ RdS Part.rep w v0 x.path.parts ∧ RdS Rep.byte w v1 x.pay
  len := by rintro w cs a ⟨v0, v1, rfl, _⟩; rfl
  ext := by rintro w w' cs a e ⟨v0, v1, rfl, h0, h1⟩; exact ⟨v0, v1, rfl, h0.ext e, h1.ext e⟩
def Pkt.ok (x : Pkt) : Prop := I64 x.kind ∧ I64 x.src ∧ I64 x.dst ∧ x.path.ok ∧ I64 x.pi ∧ I64 x.hi ∧ I64 x.beta ∧ I64 x.rid ∧ I64 x.seq ∧ ∀ y ∈ x.pay, U8 y
set_option maxHeartbeats 1000000 in
theorem Pkt.opens : Opens Try.prog 62 Pkt.rep Pkt.ok := by
  intro H enc w base spare held fuel cs x h
  obtain ⟨xs, n, _, _, hcl, hxl, hf⟩ := DataW.trod_struct Try.underlying62 h
  have hC : Try.prog.cellsOf 62 = 10 := by kernel_rfl
  have hi1 : Try.prog.cellsOf 3 = 1 := by kernel_rfl
  have hi2 : Try.prog.cellsOf 60 = 1 := by kernel_rfl
  have hi3 : Try.prog.cellsOf 22 = 1 := by kernel_rfl
  obtain ⟨c0, c1, c2, c3, c4, c5, c6, c7, c8, c9, rfl⟩ := len10 (hcl.trans hC)
  obtain ⟨y0, y1, y2, y3, y4, y5, y6, y7, y8, y9, rfl⟩ := len10 hxl
  have h0 := hf 0 _ rfl
  simp [hi1] at h0
  obtain ⟨n0, r0, k0⟩ := opens_int Try.underlying3 h0
  cases r0
  have h1 := hf 1 _ rfl
  simp [hi1] at h1
  obtain ⟨n1, r1, k1⟩ := opens_int Try.underlying3 h1
  cases r1
  have h2 := hf 2 _ rfl
  simp [hi1] at h2
  obtain ⟨n2, r2, k2⟩ := opens_int Try.underlying3 h2
  cases r2
  have h3 := hf 3 _ rfl
  simp [hi2] at h3
  obtain ⟨l3, ⟨v3, e3, r3⟩, k3⟩ := Pth.opens h3
  cases e3
  have h4 := hf 4 _ rfl
  simp [hi1] at h4
  obtain ⟨n4, r4, k4⟩ := opens_int Try.underlying3 h4
  cases r4
  have h5 := hf 5 _ rfl
  simp [hi1] at h5
  obtain ⟨n5, r5, k5⟩ := opens_int Try.underlying3 h5
  cases r5
  have h6 := hf 6 _ rfl
  simp [hi1] at h6
  obtain ⟨n6, r6, k6⟩ := opens_int Try.underlying3 h6
  cases r6
  have h7 := hf 7 _ rfl
  simp [hi1] at h7
  obtain ⟨n7, r7, k7⟩ := opens_int Try.underlying3 h7
  cases r7
  have h8 := hf 8 _ rfl
  simp [hi1] at h8
  obtain ⟨n8, r8, k8⟩ := opens_int Try.underlying3 h8
  cases r8
  have h9 := hf 9 _ rfl
  simp [hi3] at h9
  obtain ⟨l9, ⟨v9, e9, r9⟩, k9⟩ := opensBytes h9
  cases e9
  exact ⟨⟨n0, n1, n2, l3, n4, n5, n6, n7, n8, l9⟩, ⟨_, _, rfl, r3, r9⟩, k0, k1, k2, k3, k4, k5, k6, k7, k8, k9⟩
def byteOwn : Own Int := Own.flat byteF 1 byteFlen 5
/-- What a packet's two handles own: two sets that share no block. -/
def Pkt.own (S : Nat → Prop) (w : World) (h0 h1 : Value) (x : Pkt) : Prop :=
  ∃ S0 S1 : Nat → Prop, Part.own.own S0 w h0 x.path.parts ∧ byteOwn.own S1 w h1 x.pay ∧ (∀ b, S0 b → S b) ∧ (∀ b, S1 b → S b) ∧ ∀ b, S0 b → ¬ S1 b
theorem Pkt.own_kept {S T : Nat → Prop} {w w' : World} {h0 h1 : Value} {x : Pkt} (h : Pkt.own S w h0 h1 x) (c : Chg T w w') (hs : ∀ b, S b → ¬ T b) : Pkt.own S w' h0 h1 x := by
  obtain ⟨S0, S1, a, b, c0, c1, d⟩ := h
  exact ⟨S0, S1, Part.own.kept a c (fun k hk => hs k (c0 k hk)), byteOwn.kept b c (fun k hk => hs k (c1 k hk)), c0, c1, d⟩
theorem Pkt.own_ext {S : Nat → Prop} {w w' : World} {h0 h1 : Value} {x : Pkt} (h : Pkt.own S w h0 h1 x) (e : Ext w w') : Pkt.own S w' h0 h1 x :=
  Pkt.own_kept h (Chg.ofExt (S := noB) e) (fun _ _ h => h)
theorem Pkt.own_mono {S T : Nat → Prop} {w : World} {h0 h1 : Value} {x : Pkt} (h : Pkt.own S w h0 h1 x) (hs : ∀ b, S b → T b) : Pkt.own T w h0 h1 x := by
  obtain ⟨S0, S1, a, b, c0, c1, d⟩ := h
  exact ⟨S0, S1, a, b, fun k hk => hs k (c0 k hk), fun k hk => hs k (c1 k hk), d⟩
theorem Pkt.own_rd0 {S : Nat → Prop} {w : World} {h0 h1 : Value} {x : Pkt} (h : Pkt.own S w h0 h1 x) : RdS Part.rep w h0 x.path.parts := by
  obtain ⟨S0, S1, a, _⟩ := h; exact Part.own.rd a
theorem Pkt.own_rd1 {S : Nat → Prop} {w : World} {h0 h1 : Value} {x : Pkt} (h : Pkt.own S w h0 h1 x) : RdS Rep.byte w h1 x.pay := by
  obtain ⟨S0, S1, _, b, _⟩ := h; exact byteOwn.rd b
theorem Pkt.own_inb {S : Nat → Prop} {w : World} {h0 h1 : Value} {x : Pkt} (h : Pkt.own S w h0 h1 x) : Pkt.own (fun b => S b ∧ b < w.heap.size) w h0 h1 x := by
  obtain ⟨S0, S1, a, b, c0, c1, d⟩ := h
  exact ⟨_, _, Part.own.inb a, byteOwn.inb b, fun k hk => ⟨c0 k hk.1, hk.2⟩, fun k hk => ⟨c1 k hk.1, hk.2⟩, fun k hk h2 => d k hk.1 h2.1⟩
set_option maxHeartbeats 1000000 in
theorem l_szPacket (x : Pkt) (v0 v1 : Value) (left : Int) (w : World) (r0 : RdS Part.rep w v0 x.path.parts) (r1 : RdS Rep.byte w v1 x.pay) (h0 : 0 ≤ left) (h1 : left ≤ 1048576) :
    Calls Try.prog 53 #[.agg #[.int .i64 x.kind, .int .i64 x.src, .int .i64 x.dst, v0, .int .i64 x.pi, .int .i64 x.hi, .int .i64 x.beta, .int .i64 x.rid, .int .i64 x.seq, v1], .int .i64 left] w fun e w' => e = .returned (.int .i64 (szL left x.size)) ∧ Ext w w' := by
  go_enter Try.func53, Try.ntmps53
  have hx0 : Ext w (w.alloc (.cells #[.int .i64 x.kind, .int .i64 x.src, .int .i64 x.dst, v0, .int .i64 x.pi, .int .i64 x.hi, .int .i64 x.beta, .int .i64 x.rid, .int .i64 x.seq, v1] 62)) := (Ext.refl _).alloc _
  have hB := blk_new w (.cells #[.int .i64 x.kind, .int .i64 x.src, .int .i64 x.dst, v0, .int .i64 x.pi, .int .i64 x.hi, .int .i64 x.beta, .int .i64 x.rid, .int .i64 x.seq, v1] 62)
  have HB := Lib.hid hB; clear hB
  go_wp2_with fail
  refine (l_szPath x.path _ _ _ (r0.ext hx0) h0 h1).mono ?_
  rintro e w1 ⟨rfl, k1⟩
  have hx1 := hx0.trans k1
  by_cases hlt : left - x.path.size < 0
  · have hz : szL left x.size = -1 := by unfold szL Pkt.size; rw [if_pos (by omega)]
    have hz1 : szL left x.path.size = -1 := by unfold szL; rw [if_pos hlt]
    rw [hz1]
    have HZ := Lib.hid hz; clear hz hz1
    go_wp2_with fail
    go_ret
    exact ⟨ret_int HZ.out.symm, hx1⟩
  · have hz : szL (left - x.path.size) x.pay.length = szL left x.size := szL_add' hlt
    have hz1 : szL left x.path.size = left - x.path.size := by unfold szL; rw [if_neg hlt]
    rw [hz1]
    have HZ := Lib.hid hz; clear hz hz1
    have hc1 := blk10 (k1.block HB.out)
    have hl0 : 0 ≤ left - x.path.size := by omega
    have hl1 : left - x.path.size ≤ 1048576 := by omega
    go_wp2_with fail
    refine (l_szByteS x.pay _ _ _ (r1.ext hx1) hl0 hl1).mono ?_
    rintro e w2 ⟨rfl, k2⟩
    by_cases hlt2 : left - x.path.size - x.pay.length < 0
    · have hz1 : szL (left - x.path.size) x.pay.length = -1 := by unfold szL; rw [if_pos hlt2]
      have HZ2 := Lib.hid (hz1.symm.trans HZ.out)
      rw [hz1]
      clear hz1
      go_wp2_with fail
      go_ret
      exact ⟨ret_int HZ2.out, hx1.trans k2⟩
    · have hz1 : szL (left - x.path.size) x.pay.length = left - x.path.size - x.pay.length := by unfold szL; rw [if_neg hlt2]
      have HZ2 := Lib.hid (hz1.symm.trans HZ.out)
      rw [hz1]
      clear hz1
      go_wp2_with fail
      go_ret
      exact ⟨ret_int HZ2.out, hx1.trans k2⟩
set_option maxRecDepth 100000 in
set_option maxHeartbeats 4000000 in
theorem l_toPacket (x : Pkt) (v0 v1 : Value) (w : World) (r0 : RdS Part.rep w v0 x.path.parts) (r1 : RdS Rep.byte w v1 x.pay) (hl : x.size ≤ 1048576) :
    Calls Try.prog 55 #[.agg #[.int .i64 x.kind, .int .i64 x.src, .int .i64 x.dst, v0, .int .i64 x.pi, .int .i64 x.hi, .int .i64 x.beta, .int .i64 x.rid, .int .i64 x.seq, v1]] w fun e w' => ∃ u0 u1, e = .returned (.agg #[.int .i64 x.kind, .int .i64 x.src, .int .i64 x.dst, u0, .int .i64 x.pi, .int .i64 x.hi, .int .i64 x.beta, .int .i64 x.rid, .int .i64 x.seq, u1]) ∧ Pkt.own (rng w.heap.size w'.heap.size) w' u0 u1 x ∧ Ext w w' := by
  unfold Pkt.size at hl
  go_enter Try.func55, Try.ntmps55
  go_wp2_with fail
  refine (l_toPath x.path _ _ (r0.ext (by repeat (first | exact Ext.refl _ | apply Ext.alloc | (refine Ext.setCell ?_ (by simp) _)))) (by omega)).mono ?_
  rintro e w1 ⟨u1, rfl, o1, k1⟩
  obtain ⟨oo1, cc1, rfl, _⟩ := (Part.ord o1).shape
  have hb0 := k1.block (al3 w _ _ _).1
  have hb1 := k1.block (al3 w _ _ _).2.1
  have hb2 := k1.block (al3 w _ _ _).2.2
  have hx1 := (ext3 w _ _ _).trans k1
  have hs1 := k1.size
  simp only [nblk_alloc] at hs1 o1
  have key : ∃ w2, w2 = ((((((w1.setCell ⟨w.heap.size + 1 + 1, 3, none⟩ (.slice oo1 x.path.parts.length cc1)).setCell ⟨w.heap.size + 1 + 1, 4, none⟩ (.int .i64 x.pi)).setCell ⟨w.heap.size + 1 + 1, 5, none⟩ (.int .i64 x.hi)).setCell ⟨w.heap.size + 1 + 1, 6, none⟩ (.int .i64 x.beta)).setCell ⟨w.heap.size + 1 + 1, 7, none⟩ (.int .i64 x.rid)).setCell ⟨w.heap.size + 1 + 1, 8, none⟩ (.int .i64 x.seq)) ∧ w2.heap[w.heap.size]? = some (.cells #[.int .i64 x.kind, .int .i64 x.src, .int .i64 x.dst, v0, .int .i64 x.pi, .int .i64 x.hi, .int .i64 x.beta, .int .i64 x.rid, .int .i64 x.seq, v1] 62) ∧ w2.heap[w.heap.size + 1]? = some (.cells #[.int .i64 0, .int .i64 0, .int .i64 0, .slice none 0 0, .int .i64 0, .int .i64 0, .int .i64 0, .int .i64 0, .int .i64 0, .slice none 0 0] 78) ∧ w2.heap[w.heap.size + 1 + 1]? = some (.cells #[.int .i64 x.kind, .int .i64 x.src, .int .i64 x.dst, .slice oo1 x.path.parts.length cc1, .int .i64 x.pi, .int .i64 x.hi, .int .i64 x.beta, .int .i64 x.rid, .int .i64 x.seq, .slice none 0 0] 78) ∧ Part.own.own (rng (w.heap.size + 1 + 1 + 1) w1.heap.size) w2 (.slice oo1 x.path.parts.length cc1) x.path.parts ∧ Ext w w2 ∧ w2.heap.size = w1.heap.size := by
    refine ⟨_, rfl, ?_, ?_, ?_, ?_, ?_, ?_⟩
    · have q (o : Nat) (u : Value) {wq : World} (h : wq.heap[w.heap.size]? = some (.cells #[.int .i64 x.kind, .int .i64 x.src, .int .i64 x.dst, v0, .int .i64 x.pi, .int .i64 x.hi, .int .i64 x.beta, .int .i64 x.rid, .int .i64 x.seq, v1] 62)) := blk_set_ne h (show w.heap.size + 1 + 1 ≠ w.heap.size by omega) o u
      exact q _ _ (q _ _ (q _ _ (q _ _ (q _ _ (q _ _ hb0)))))
    · have q (o : Nat) (u : Value) {wq : World} (h : wq.heap[w.heap.size + 1]? = some (.cells #[.int .i64 0, .int .i64 0, .int .i64 0, .slice none 0 0, .int .i64 0, .int .i64 0, .int .i64 0, .int .i64 0, .int .i64 0, .slice none 0 0] 78)) := blk_set_ne h (show w.heap.size + 1 + 1 ≠ w.heap.size + 1 by omega) o u
      exact q _ _ (q _ _ (q _ _ (q _ _ (q _ _ (q _ _ hb1)))))
    · have := blk_set (blk_set (blk_set (blk_set (blk_set (blk_set hb2 3 (.slice oo1 x.path.parts.length cc1)) 4 (.int .i64 x.pi)) 5 (.int .i64 x.hi)) 6 (.int .i64 x.beta)) 7 (.int .i64 x.rid)) 8 (.int .i64 x.seq)
      simpa using this
    · have q (o : Nat) (u : Value) {wq : World} (h : Chg (fun b => b = w.heap.size + 1 + 1) w1 wq) := Chg.setCell (p := ⟨w.heap.size + 1 + 1, o, none⟩) h rfl u
      exact Part.own.kept o1 (q _ _ (q _ _ (q _ _ (q _ _ (q _ _ (q _ _ (Chg.refl _ w1))))))) (fun b hb e => by have := hb.1; omega)
    · have q (o : Nat) (u : Value) {wq : World} (h : Ext w wq) := Ext.setCell (p := ⟨w.heap.size + 1 + 1, o, none⟩) h (show w.heap.size ≤ w.heap.size + 1 + 1 by omega) u
      exact q _ _ (q _ _ (q _ _ (q _ _ (q _ _ (q _ _ hx1)))))
    · simp
  obtain ⟨w2, hw2, B0, B1, B2, o1', hx2, hsz⟩ := key
  have HW := Lib.hid hw2; have HB0 := Lib.hid B0; have HB1 := Lib.hid B1; have HB2 := Lib.hid B2
  clear hw2 B0 B1 B2 o1
  have hc0 := blk10 hb0
  have hc2 := blk10 hb2
  have f3 := fr_of hb2 3
  have f4 := fr_of hb2 4
  have f5 := fr_of hb2 5
  have f6 := fr_of hb2 6
  have f7 := fr_of hb2 7
  have f8 := fr_of hb2 8
  clear hb0 hb1 hb2 hx1
  go_wp2_with fail
  rw [← HW.out]
  refine (l_toByteS x.pay _ _ (r1.ext hx2) (by omega)).mono ?_
  rintro e w3 ⟨u2, rfl, o2, k2⟩
  clear hc0 hc2 f3 f4 f5 f6 f7 f8
  obtain ⟨oo2, cc2, rfl, _⟩ := (OwnF.rd (hf := byteFlen) o2).shape
  have b1 := k2.block HB1.out
  have b2 := k2.block HB2.out
  have hs3 : w.heap.size + 1 + 1 < w2.heap.size := blk_lt HB2.out
  have hs4 := k2.size
  have c1 := blk10 b1
  have c2 := blk10 b2
  have g0 := fr_of b1 0
  have g1 := fr_of b1 1
  have g2 := fr_of b1 2
  have g3 := fr_of b1 3
  have g4 := fr_of b1 4
  have g5 := fr_of b1 5
  have g6 := fr_of b1 6
  have g7 := fr_of b1 7
  have g8 := fr_of b1 8
  have g9 := fr_of b1 9
  have gg := fr_of b2 9
  have o1q := Own.ext o1' k2
  have o2q := Own.ofF (hf := byteFlen) o2
  clear b1 b2 o1' o2
  go_wp2_with fail
  refine bodyPost_ret (v := .agg #[.int .i64 x.kind, .int .i64 x.src, .int .i64 x.dst, .slice oo1 x.path.parts.length cc1, .int .i64 x.pi, .int .i64 x.hi, .int .i64 x.beta, .int .i64 x.rid, .int .i64 x.seq, .slice oo2 x.pay.length cc2]) (by simp [results, Try.results55, go_sem, c1]) rfl ⟨_, _, rfl, ⟨_, _, Part.own.kept (T := fun b => b < w.heap.size + 1 + 1 + 1) o1q ?_ (fun b hb e => by have := hb.1; omega), byteOwn.kept (T := fun b => b < w.heap.size + 1 + 1 + 1) o2q ?_ (fun b hb e => by have := hb.1; omega), ?_, ?_, ?_⟩, ?_⟩
  · have q (b : Nat) (hb : b < w.heap.size + 1 + 1 + 1) (o : Nat) (u : Value) {wq : World} (h : Chg (fun b => b < w.heap.size + 1 + 1 + 1) w3 wq) := Chg.setCell (p := ⟨b, o, none⟩) h hb u
    exact q _ (by omega) _ _ (q _ (by omega) _ _ (q _ (by omega) _ _ (q _ (by omega) _ _ (q _ (by omega) _ _ (q _ (by omega) _ _ (q _ (by omega) _ _ (q _ (by omega) _ _ (q _ (by omega) _ _ (q _ (by omega) _ _ (q _ (by omega) _ _ (Chg.refl _ w3)))))))))))
  · have q (b : Nat) (hb : b < w.heap.size + 1 + 1 + 1) (o : Nat) (u : Value) {wq : World} (h : Chg (fun b => b < w.heap.size + 1 + 1 + 1) w3 wq) := Chg.setCell (p := ⟨b, o, none⟩) h hb u
    exact q _ (by omega) _ _ (q _ (by omega) _ _ (q _ (by omega) _ _ (q _ (by omega) _ _ (q _ (by omega) _ _ (q _ (by omega) _ _ (q _ (by omega) _ _ (q _ (by omega) _ _ (q _ (by omega) _ _ (q _ (by omega) _ _ (q _ (by omega) _ _ (Chg.refl _ w3)))))))))))
  · intro b hb
    have h1 := hb.1; have h2 := hb.2
    refine ⟨by omega, ?_⟩
    simp
    omega
  · intro b hb
    have h1 := hb.1; have h2 := hb.2
    refine ⟨by omega, ?_⟩
    simp
    omega
  · intro b hb h2
    have h3 := hb.2; have h4 := h2.1
    omega
  · have hx3 := hx2.trans k2
    have q (b : Nat) (hb : w.heap.size ≤ b) (o : Nat) (u : Value) {wq : World} (h : Ext w wq) := Ext.setCell (p := ⟨b, o, none⟩) h hb u
    exact q _ (by omega) _ _ (q _ (by omega) _ _ (q _ (by omega) _ _ (q _ (by omega) _ _ (q _ (by omega) _ _ (q _ (by omega) _ _ (q _ (by omega) _ _ (q _ (by omega) _ _ (q _ (by omega) _ _ (q _ (by omega) _ _ (q _ (by omega) _ _ hx3))))))))))
set_option maxHeartbeats 4000000 in
theorem l_eqPacket (x y : Pkt) (v0 v1 u0 u1 : Value) (w : World) (r0 : RdS Part.rep w v0 x.path.parts) (r1 : RdS Rep.byte w v1 x.pay) (s0 : RdS Part.rep w u0 y.path.parts) (s1 : RdS Rep.byte w u1 y.pay) :
    Calls Try.prog 57 #[.agg #[.int .i64 x.kind, .int .i64 x.src, .int .i64 x.dst, v0, .int .i64 x.pi, .int .i64 x.hi, .int .i64 x.beta, .int .i64 x.rid, .int .i64 x.seq, v1], .agg #[.int .i64 y.kind, .int .i64 y.src, .int .i64 y.dst, u0, .int .i64 y.pi, .int .i64 y.hi, .int .i64 y.beta, .int .i64 y.rid, .int .i64 y.seq, u1]] w fun e w' => e = .returned (.bool (decide (x = y))) ∧ Ext w w' := by
  have heq : decide (x = y) = (!(x.kind != y.kind) && (!(x.src != y.src) && (!(x.dst != y.dst) && (decide (x.path = y.path) && (!(x.pi != y.pi) && (!(x.hi != y.hi) && (!(x.beta != y.beta) && (!(x.rid != y.rid) && (!(x.seq != y.seq) && decide (x.pay = y.pay)))))))))) := by
    cases x; cases y; simp only [nbne, Pkt.mk.injEq, Bool.decide_and]
  have HEQ := Lib.hid heq; clear heq
  go_enter Try.func57, Try.ntmps57
  have hx0 := ext2 w (.cells #[.int .i64 x.kind, .int .i64 x.src, .int .i64 x.dst, v0, .int .i64 x.pi, .int .i64 x.hi, .int .i64 x.beta, .int .i64 x.rid, .int .i64 x.seq, v1] 78) (.cells #[.int .i64 y.kind, .int .i64 y.src, .int .i64 y.dst, u0, .int .i64 y.pi, .int .i64 y.hi, .int .i64 y.beta, .int .i64 y.rid, .int .i64 y.seq, u1] 78)
  have hB := al2 w (.cells #[.int .i64 x.kind, .int .i64 x.src, .int .i64 x.dst, v0, .int .i64 x.pi, .int .i64 x.hi, .int .i64 x.beta, .int .i64 x.rid, .int .i64 x.seq, v1] 78) (.cells #[.int .i64 y.kind, .int .i64 y.src, .int .i64 y.dst, u0, .int .i64 y.pi, .int .i64 y.hi, .int .i64 y.beta, .int .i64 y.rid, .int .i64 y.seq, u1] 78)
  have HB := Lib.hid hB; clear hB
  cases hc0 : (x.kind != y.kind)
  · cases hc1 : (x.src != y.src)
    · cases hc2 : (x.dst != y.dst)
      · rw [hc0, hc1, hc2] at HEQ
        go_wp2_with fail
        refine (l_eqPath x.path y.path _ _ _ (r0.ext hx0) (s0.ext hx0)).mono ?_
        rintro e w1 ⟨rfl, k1⟩
        have hx1 := hx0.trans k1
        have c0 := blk10 (k1.block HB.out.1)
        have c1 := blk10 (k1.block HB.out.2)
        cases hr : decide (x.path = y.path)
        · rw [hr] at HEQ
          go_wp2_with fail
          go_ret
          exact ⟨ret_bool HEQ.out.symm, hx1⟩
        · rw [hr] at HEQ
          cases hc4 : (x.pi != y.pi)
          · cases hc5 : (x.hi != y.hi)
            · cases hc6 : (x.beta != y.beta)
              · cases hc7 : (x.rid != y.rid)
                · cases hc8 : (x.seq != y.seq)
                  · rw [hc4, hc5, hc6, hc7, hc8] at HEQ
                    go_wp2_with fail
                    refine (l_eqByteS x.pay y.pay _ _ _ (r1.ext hx1) (s1.ext hx1)).mono ?_
                    rintro e w2 ⟨rfl, k2⟩
                    cases hu : decide (x.pay = y.pay)
                    · rw [hu] at HEQ
                      go_wp2_with fail
                      go_ret
                      exact ⟨ret_bool HEQ.out.symm, hx1.trans k2⟩
                    · rw [hu] at HEQ
                      go_wp2_with fail
                      go_ret
                      exact ⟨ret_bool HEQ.out.symm, hx1.trans k2⟩
                  · rw [hc4, hc5, hc6, hc7, hc8] at HEQ
                    go_wp2_with fail
                    go_ret
                    exact ⟨ret_bool HEQ.out.symm, hx1⟩
                · rw [hc4, hc5, hc6, hc7] at HEQ
                  go_wp2_with fail
                  go_ret
                  exact ⟨ret_bool HEQ.out.symm, hx1⟩
              · rw [hc4, hc5, hc6] at HEQ
                go_wp2_with fail
                go_ret
                exact ⟨ret_bool HEQ.out.symm, hx1⟩
            · rw [hc4, hc5] at HEQ
              go_wp2_with fail
              go_ret
              exact ⟨ret_bool HEQ.out.symm, hx1⟩
          · rw [hc4] at HEQ
            go_wp2_with fail
            go_ret
            exact ⟨ret_bool HEQ.out.symm, hx1⟩
      · rw [hc0, hc1, hc2] at HEQ
        go_wp2_with fail
        go_ret
        exact ⟨ret_bool HEQ.out.symm, hx0⟩
    · rw [hc0, hc1] at HEQ
      go_wp2_with fail
      go_ret
      exact ⟨ret_bool HEQ.out.symm, hx0⟩
  · rw [hc0] at HEQ
    go_wp2_with fail
    go_ret
    exact ⟨ret_bool HEQ.out.symm, hx0⟩
def Pkt.cnt (x : Pkt) : Int := markN x.path.parts + 1 * x.pay.length
def Pkt.marked (k : Int) (x : Pkt) : Pkt := { x with path := ⟨markParts k x.path.parts⟩, pay := markL byteMk 1 (k + markN x.path.parts) x.pay.length }
theorem Pkt.cnt_le {x : Pkt} (h : x.size ≤ 1048576) : 0 ≤ x.cnt ∧ x.cnt ≤ 5242880 := by
  unfold Pkt.size Pth.size at h; unfold Pkt.cnt markN; omega
theorem Pkt.cnt_parts {x : Pkt} : 0 ≤ markN x.path.parts ∧ markN x.path.parts ≤ x.cnt := by unfold Pkt.cnt markN; omega
theorem lm_ByteS (l : List Int) (v : Value) (k : Int) (S : Nat → Prop) (w : World) (o : byteOwn.own S w v l) (h0 : 0 ≤ k) (h1 : k + 1 * l.length ≤ 4611686018427387904) :
    Calls Try.prog 113 #[v, .int .i64 k] w fun e w' => e = .returned (.int .i64 (k + 1 * l.length)) ∧ byteOwn.own S w' v (markL byteMk 1 k l.length) ∧ Chg S w w' :=
  (l_markByteS l v k 0 w o.1 h0 h1).mono fun _ _ ⟨he, ho, hg⟩ => ⟨he, ⟨ho, o.2⟩, Chg.ofGrown hg o.2⟩
set_option maxHeartbeats 1000000 in
theorem l_markPacket (x : Pkt) (h0 h1 : Value) (k : Int) (S : Nat → Prop) (w : World) (o : Pkt.own S w h0 h1 x) (hk : 0 ≤ k) (hm : k + x.cnt ≤ 4611686018427387904) :
    Calls Try.prog 59 #[.agg #[.int .i64 x.kind, .int .i64 x.src, .int .i64 x.dst, h0, .int .i64 x.pi, .int .i64 x.hi, .int .i64 x.beta, .int .i64 x.rid, .int .i64 x.seq, h1], .int .i64 k] w fun e w' => e = .returned (.int .i64 (k + x.cnt)) ∧ Pkt.own S w' h0 h1 (Pkt.marked k x) ∧ Chg S w w' := by
  have hcp := Pkt.cnt_parts (x := x)
  have hce : k + x.cnt = k + markN x.path.parts + 1 * x.pay.length := by unfold Pkt.cnt; omega
  rw [hce] at hm ⊢
  obtain ⟨S0, S1, o0, o1, c0, c1, hd⟩ := Pkt.own_inb o
  have hx0 : Ext w (w.alloc (.cells #[.int .i64 x.kind, .int .i64 x.src, .int .i64 x.dst, h0, .int .i64 x.pi, .int .i64 x.hi, .int .i64 x.beta, .int .i64 x.rid, .int .i64 x.seq, h1] 78)) := (Ext.refl _).alloc _
  have hB := blk_new w (.cells #[.int .i64 x.kind, .int .i64 x.src, .int .i64 x.dst, h0, .int .i64 x.pi, .int .i64 x.hi, .int .i64 x.beta, .int .i64 x.rid, .int .i64 x.seq, h1] 78)
  have HB := Lib.hid hB; clear hB
  go_enter Try.func59, Try.ntmps59
  go_wp2_with fail
  refine (l_markPath x.path.parts _ k S0 _ (Own.ext o0 hx0) hk (by omega)).mono ?_
  rintro e w1 ⟨rfl, o0', d1⟩
  have o1' := byteOwn.kept (Own.ext o1 hx0) d1 (fun b hb h2 => hd b h2 hb)
  have hb1 := (d1.block _ (blk_lt HB.out) (fun h => by have := (c0 _ h).2; omega)).trans HB.out
  have hc := blk10 hb1
  clear hb1
  have hp : 0 ≤ k + markN x.path.parts := by omega
  go_wp2_with fail
  refine (lm_ByteS x.pay _ (k + markN x.path.parts) S1 _ o1' hp hm).mono ?_
  rintro e w2 ⟨rfl, o1'', d2⟩
  have o0'' := Part.own.kept o0' d2 (fun b hb h2 => hd b hb h2)
  go_wp2_with fail
  go_ret
  refine ⟨ret_int (by omega), ⟨S0, S1, o0'', o1'', fun b hb => (c0 b hb).1, fun b hb => (c1 b hb).1, hd⟩, ?_⟩
  exact ((Chg.ofExt hx0).trans (d1.mono (fun b hb => (c0 b hb).1))).trans (d2.mono (fun b hb => (c1 b hb).1))
set_option maxHeartbeats 1000000 in
theorem l_heldPacket (x : Pkt) (h0 h1 : Value) (k : Int) (w : World) (r0 : RdS Part.rep w h0 (Pkt.marked k x).path.parts) (r1 : RdS Rep.byte w h1 (Pkt.marked k x).pay) (hk : 0 ≤ k) (hm : k + x.cnt ≤ 4611686018427387904) :
    Calls Try.prog 60 #[.agg #[.int .i64 x.kind, .int .i64 x.src, .int .i64 x.dst, h0, .int .i64 x.pi, .int .i64 x.hi, .int .i64 x.beta, .int .i64 x.rid, .int .i64 x.seq, h1], .int .i64 k] w fun e w' => e = .returned (.int .i64 (k + x.cnt)) ∧ Ext w w' := by
  have hcp := Pkt.cnt_parts (x := x)
  have hce : k + x.cnt = k + markN x.path.parts + 1 * x.pay.length := by unfold Pkt.cnt; omega
  rw [hce] at hm ⊢
  have hx0 : Ext w (w.alloc (.cells #[.int .i64 x.kind, .int .i64 x.src, .int .i64 x.dst, h0, .int .i64 x.pi, .int .i64 x.hi, .int .i64 x.beta, .int .i64 x.rid, .int .i64 x.seq, h1] 78)) := (Ext.refl _).alloc _
  have hB := blk_new w (.cells #[.int .i64 x.kind, .int .i64 x.src, .int .i64 x.dst, h0, .int .i64 x.pi, .int .i64 x.hi, .int .i64 x.beta, .int .i64 x.rid, .int .i64 x.seq, h1] 78)
  have HB := Lib.hid hB; clear hB
  go_enter Try.func60, Try.ntmps60
  go_wp2_with fail
  refine (l_heldPath x.path.parts _ k _ (r0.ext hx0) hk (by omega)).mono ?_
  rintro e w1 ⟨rfl, k1⟩
  have hc := blk10 (k1.block HB.out)
  have hp : 0 ≤ k + markN x.path.parts := by omega
  have hp' : ¬ k + markN x.path.parts < 0 := by omega
  go_wp2_with fail
  refine (l_heldByteS x.pay.length _ (k + markN x.path.parts) _ (r1.ext (hx0.trans k1)) hp hm).mono ?_
  rintro e w2 ⟨rfl, k2⟩
  have hp2 : ¬ k + markN x.path.parts + 1 * (x.pay.length : Int) < 0 := by omega
  go_wp2_with fail
  go_ret
  exact ⟨ret_int (by omega), (hx0.trans k1).trans k2⟩
end Go.Proofs.Ytjjoijidlgkimaa
