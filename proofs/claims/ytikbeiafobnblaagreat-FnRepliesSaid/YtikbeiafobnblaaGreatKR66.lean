/- What these laws need: FnReplies: Contracts of new packets and replies, program and reference. -/
import Derived.Test.YtikbeiafobnblaaGreatKR21
import Derived.Test.YtikbeiafobnblaaGreatKR32
import Derived.Test.YtikbeiafobnblaaGreatKR42
namespace Go.Proofs.YtikbeiafobnblaaGreat
section
open Go.ChangeShapes Go.WideShapes Go.ChangeAt Go.RowKit Go.Deep
def reply (x : Pkt) (kind seq : Int) (pay : List Int) : Pkt := newPkt kind (revPath x.path) x.rid seq pay
theorem newPkt_size (kind : Int) (p : Pth) (rid seq : Int) (pay : List Int) : (newPkt kind p rid seq pay).size = p.size + pay.length := rfl
set_option maxRecDepth 100000 in
set_option maxHeartbeats 8000000 in
theorem i_NewPacket (kind : Int) (p : Pth) (v : Value) (rid seq : Int) (pay : List Int) (vp : Value) (w : World) (r : RdS Part.rep w v p.parts) (rp : RdS Rep.byte w vp pay) (hl : p.size ≤ 1048576) (hp : pay.length ≤ 1048576) :
  Calls Tryz.prog 55 #[.int .i64 kind, .agg #[v], .int .i64 rid, .int .i64 seq, vp] w fun e w' => ∃ u0 u1, e = .returned (.agg #[.int .i64 (newPkt kind p rid seq pay).kind, .int .i64 (newPkt kind p rid seq pay).src, .int .i64 (newPkt kind p rid seq pay).dst, u0, .int .i64 (newPkt kind p rid seq pay).pi, .int .i64 (newPkt kind p rid seq pay).hi, .int .i64 (newPkt kind p rid seq pay).beta, .int .i64 (newPkt kind p rid seq pay).rid, .int .i64 (newPkt kind p rid seq pay).seq, u1]) ∧ Pkt.own (rng w.heap.size w'.heap.size) w' u0 u1 (newPkt kind p rid seq pay) ∧ Ext w w' := by
 obtain ⟨oq, cq, rfl, _⟩ := r.shape
 have hx0 := ext2 w (.cells #[.slice oq p.parts.length cq] 26) (.cells #[.int .i64 0, .int .i64 0, .int .i64 0, .slice none 0 0, .int .i64 0, .int .i64 0, .int .i64 0, .int .i64 0, .int .i64 0, .slice none 0 0] 28)
 have HB := Lib.hid (al2 w (.cells #[.slice oq p.parts.length cq] 26) (.cells #[.int .i64 0, .int .i64 0, .int .i64 0, .slice none 0 0, .int .i64 0, .int .i64 0, .int .i64 0, .int .i64 0, .int .i64 0, .slice none 0 0] 28))
 go_enter Tryz.func55, Tryz.ntmps55
 go_wp2_with fail
 refine (i_copyPath p _ _ (r.ext hx0) hl).mono ?_
 rintro e w1 ⟨u1, rfl, o1', h1⟩
 obtain ⟨o1, c1, rfl, _⟩ := (Part.ord o1').shape
 have hs1 := h1.size
 simp only [nblk_alloc] at hs1 o1'
 have hX1 := hx0.trans h1
 go_wp2_with fail
 refine (i_copyBytes pay _ _ (rp.ext hX1) (by omega)).mono ?_
 rintro e w2 ⟨u2, rfl, o2', h2⟩
 obtain ⟨o2, c2, rfl, _⟩ := (OwnF.rd (hf := byteFlen) o2').shape
 have hs2 := h2.size
 have hX2 := hX1.trans h2
 have hcb := blk1 (Ext.block (h1.trans h2) HB.out.1)
 have hxp : Ext w2 (w2.alloc (.cells #[.int .i64 kind, .int .i64 0, .int .i64 0, .slice o1 p.parts.length c1, .int .i64 0, .int .i64 0, .int .i64 0, .int .i64 rid, .int .i64 seq, .slice o2 pay.length c2] 28)) := (Ext.refl _).alloc _
 have HP := Lib.hid (blk_new w2 (.cells #[.int .i64 kind, .int .i64 0, .int .i64 0, .slice o1 p.parts.length c1, .int .i64 0, .int .i64 0, .int .i64 0, .int .i64 rid, .int .i64 seq, .slice o2 pay.length c2] 28))
 have hcb2 := blk1 (Ext.block ((h1.trans h2).trans hxp) HB.out.1)
 have O1' := Lib.hid (Own.ext o1' (h2.trans hxp))
 have O2' := Lib.hid (Own.ext (Own.ofF (hf := byteFlen) o2') hxp)
 clear o1' o2'
 go_wp2_with fail
 refine (i_Endpoints p _ _ (r.ext (hX2.trans hxp)) hl).mono ?_
 rintro e w4 ⟨rfl, h4⟩
 have O1 := Lib.hid (Own.ext O1'.out h4)
 have O2 := Lib.hid (Own.ext O2'.out h4)
 clear O1' O2'
 have hX4 := (hX2.trans hxp).trans h4
 have hbP := h4.block HP.out
 have hbR := Ext.block ((h1.trans h2).trans (hxp.trans h4)) HB.out.2
 have hcb4 := blk1 (Ext.block ((h1.trans h2).trans (hxp.trans h4)) HB.out.1)
 have hs4 : w2.heap.size < w4.heap.size := blk_lt hbP
 have cP := blk10 hbP
 have cR := blk10 hbR
 have gR0 := fr_of hbR 0
 have gR1 := fr_of hbR 1
 have gR2 := fr_of hbR 2
 have gR3 := fr_of hbR 3
 have gR4 := fr_of hbR 4
 have gR5 := fr_of hbR 5
 have gR6 := fr_of hbR 6
 have gR7 := fr_of hbR 7
 have gR8 := fr_of hbR 8
 have gR9 := fr_of hbR 9
 have gP1 := fr_of hbP 1
 have gP2 := fr_of hbP 2
 have gP6 := fr_of hbP 6
 clear hbP hbR
 by_cases hn : 0 < p.parts.length
 ·
  have hbo := Part.at r 0 hn
  obtain ⟨b, off, oh, ch, rfl, hc, _⟩ := Part.at (r.ext hX4) 0 hn
  have hcz := hc
  simp only [Nat.zero_mul, Nat.add_zero] at hc
  have HBT := Lib.hid (beta0_at hn)
  have hn0 : (0 : Int) < (p.parts.length : Int) := by omega
  have hbo : b < w.heap.size := by
   obtain ⟨b', off', oh', ch', e', hc', _⟩ := hbo
   cases e'
   exact World.block_lt_of_cell? w ⟨b, off + 0 * 4, none⟩ hc'.1
  have hne : b ≠ w2.heap.size := by omega
  go_wp2_with fail
  refine bodyPost_ret (v := .agg #[.int .i64 kind, .int .i64 (ends p.parts).1, .int .i64 (ends p.parts).2, .slice o1 p.parts.length c1, .int .i64 0, .int .i64 0, .int .i64 p.parts[0].beta, .int .i64 rid, .int .i64 seq, .slice o2 pay.length c2]) (by simp [results, Tryz.results55, go_sem, cR]) rfl ?_
  unfold newPkt
  rw [HBT.out]
  refine ⟨_, _, rfl, ⟨_, _, Part.own.kept (T := fun b => b = w.heap.size + 1 ∨ b = w2.heap.size) O1.out ?_ (fun b hb e => by have h1 := hb.1; have h2 := hb.2; omega), byteOwn.kept (T := fun b => b = w.heap.size + 1 ∨ b = w2.heap.size) O2.out ?_ (fun b hb e => by have h1 := hb.1; have h2 := hb.2; omega), ?_, ?_, ?_⟩, ?_⟩
  ·
   have q (b : Nat) (hb : b = w.heap.size + 1 ∨ b = w2.heap.size) (o : Nat) (u : Value) {wq : World} (h : Chg (fun b => b = w.heap.size + 1 ∨ b = w2.heap.size) w4 wq) := Chg.setCell (p := ⟨b, o, none⟩) h hb u
   exact q _ (by omega) _ _ (q _ (by omega) _ _ (q _ (by omega) _ _ (q _ (by omega) _ _ (q _ (by omega) _ _ (q _ (by omega) _ _ (q _ (by omega) _ _ (q _ (by omega) _ _ (q _ (by omega) _ _ (q _ (by omega) _ _ (q _ (by omega) _ _ (q _ (by omega) _ _ (q _ (by omega) _ _ (Chg.refl _ w4)))))))))))))
  ·
   have q (b : Nat) (hb : b = w.heap.size + 1 ∨ b = w2.heap.size) (o : Nat) (u : Value) {wq : World} (h : Chg (fun b => b = w.heap.size + 1 ∨ b = w2.heap.size) w4 wq) := Chg.setCell (p := ⟨b, o, none⟩) h hb u
   exact q _ (by omega) _ _ (q _ (by omega) _ _ (q _ (by omega) _ _ (q _ (by omega) _ _ (q _ (by omega) _ _ (q _ (by omega) _ _ (q _ (by omega) _ _ (q _ (by omega) _ _ (q _ (by omega) _ _ (q _ (by omega) _ _ (q _ (by omega) _ _ (q _ (by omega) _ _ (q _ (by omega) _ _ (Chg.refl _ w4)))))))))))))
  ·
   intro b hb
   have h1 := hb.1; have h2 := hb.2
   refine ⟨by omega, ?_⟩
   simp
   omega
  ·
   intro b hb
   have h1 := hb.1; have h2 := hb.2
   refine ⟨by omega, ?_⟩
   simp
   omega
  ·
   intro b hb h2
   have h3 := hb.2; have h4 := h2.1
   omega
  ·
   have q (b : Nat) (hb : w.heap.size ≤ b) (o : Nat) (u : Value) {wq : World} (h : Ext w wq) := Ext.setCell (p := ⟨b, o, none⟩) h hb u
   exact q _ (by omega) _ _ (q _ (by omega) _ _ (q _ (by omega) _ _ (q _ (by omega) _ _ (q _ (by omega) _ _ (q _ (by omega) _ _ (q _ (by omega) _ _ (q _ (by omega) _ _ (q _ (by omega) _ _ (q _ (by omega) _ _ (q _ (by omega) _ _ (q _ (by omega) _ _ (q _ (by omega) _ _ hX4))))))))))))
 ·
  have HBT := Lib.hid (beta0_nil hn)
  have hn0 : ¬ (0 : Int) < (p.parts.length : Int) := by omega
  go_wp2_with fail
  refine bodyPost_ret (v := .agg #[.int .i64 kind, .int .i64 (ends p.parts).1, .int .i64 (ends p.parts).2, .slice o1 p.parts.length c1, .int .i64 0, .int .i64 0, .int .i64 0, .int .i64 rid, .int .i64 seq, .slice o2 pay.length c2]) (by simp [results, Tryz.results55, go_sem, cR]) rfl ?_
  unfold newPkt
  rw [HBT.out]
  refine ⟨_, _, rfl, ⟨_, _, Part.own.kept (T := fun b => b = w.heap.size + 1 ∨ b = w2.heap.size) O1.out ?_ (fun b hb e => by have h1 := hb.1; have h2 := hb.2; omega), byteOwn.kept (T := fun b => b = w.heap.size + 1 ∨ b = w2.heap.size) O2.out ?_ (fun b hb e => by have h1 := hb.1; have h2 := hb.2; omega), ?_, ?_, ?_⟩, ?_⟩
  ·
   have q (b : Nat) (hb : b = w.heap.size + 1 ∨ b = w2.heap.size) (o : Nat) (u : Value) {wq : World} (h : Chg (fun b => b = w.heap.size + 1 ∨ b = w2.heap.size) w4 wq) := Chg.setCell (p := ⟨b, o, none⟩) h hb u
   exact q _ (by omega) _ _ (q _ (by omega) _ _ (q _ (by omega) _ _ (q _ (by omega) _ _ (q _ (by omega) _ _ (q _ (by omega) _ _ (q _ (by omega) _ _ (q _ (by omega) _ _ (q _ (by omega) _ _ (q _ (by omega) _ _ (q _ (by omega) _ _ (q _ (by omega) _ _ (Chg.refl _ w4))))))))))))
  ·
   have q (b : Nat) (hb : b = w.heap.size + 1 ∨ b = w2.heap.size) (o : Nat) (u : Value) {wq : World} (h : Chg (fun b => b = w.heap.size + 1 ∨ b = w2.heap.size) w4 wq) := Chg.setCell (p := ⟨b, o, none⟩) h hb u
   exact q _ (by omega) _ _ (q _ (by omega) _ _ (q _ (by omega) _ _ (q _ (by omega) _ _ (q _ (by omega) _ _ (q _ (by omega) _ _ (q _ (by omega) _ _ (q _ (by omega) _ _ (q _ (by omega) _ _ (q _ (by omega) _ _ (q _ (by omega) _ _ (q _ (by omega) _ _ (Chg.refl _ w4))))))))))))
  ·
   intro b hb
   have h1 := hb.1; have h2 := hb.2
   refine ⟨by omega, ?_⟩
   simp
   omega
  ·
   intro b hb
   have h1 := hb.1; have h2 := hb.2
   refine ⟨by omega, ?_⟩
   simp
   omega
  ·
   intro b hb h2
   have h3 := hb.2; have h4 := h2.1
   omega
  ·
   have q (b : Nat) (hb : w.heap.size ≤ b) (o : Nat) (u : Value) {wq : World} (h : Ext w wq) := Ext.setCell (p := ⟨b, o, none⟩) h hb u
   exact q _ (by omega) _ _ (q _ (by omega) _ _ (q _ (by omega) _ _ (q _ (by omega) _ _ (q _ (by omega) _ _ (q _ (by omega) _ _ (q _ (by omega) _ _ (q _ (by omega) _ _ (q _ (by omega) _ _ (q _ (by omega) _ _ (q _ (by omega) _ _ (q _ (by omega) _ _ hX4)))))))))))
set_option maxRecDepth 100000 in
set_option maxHeartbeats 8000000 in
theorem i_Reply (x : Pkt) (v0 v1 : Value) (kind seq : Int) (pay : List Int) (vp : Value) (w : World) (r0 : RdS Part.rep w v0 x.path.parts) (_ : RdS Rep.byte w v1 x.pay) (rp : RdS Rep.byte w vp pay) (hl : x.size ≤ 1048576) (hp : pay.length ≤ 1048576) :
  Calls Tryz.prog 52 #[.agg #[.int .i64 x.kind, .int .i64 x.src, .int .i64 x.dst, v0, .int .i64 x.pi, .int .i64 x.hi, .int .i64 x.beta, .int .i64 x.rid, .int .i64 x.seq, v1], .int .i64 kind, .int .i64 seq, vp] w fun e w' => ∃ u0 u1, e = .returned (.agg #[.int .i64 (reply x kind seq pay).kind, .int .i64 (reply x kind seq pay).src, .int .i64 (reply x kind seq pay).dst, u0, .int .i64 (reply x kind seq pay).pi, .int .i64 (reply x kind seq pay).hi, .int .i64 (reply x kind seq pay).beta, .int .i64 (reply x kind seq pay).rid, .int .i64 (reply x kind seq pay).seq, u1]) ∧ Pkt.own (rng w.heap.size w'.heap.size) w' u0 u1 (reply x kind seq pay) ∧ Ext w w' := by
 have hl0 : x.path.size ≤ 1048576 := by unfold Pkt.size at hl; omega
 have hl1 : (revPath x.path).size ≤ 1048576 := by rw [revPath_size]; exact hl0
 clear hl
 obtain ⟨oq, cq, rfl, _⟩ := r0.shape
 have hx0 := ext2 w (.cells #[.int .i64 x.kind, .int .i64 x.src, .int .i64 x.dst, .slice oq x.path.parts.length cq, .int .i64 x.pi, .int .i64 x.hi, .int .i64 x.beta, .int .i64 x.rid, .int .i64 x.seq, v1] 28) (.cells #[.int .i64 0, .int .i64 0, .int .i64 0, .slice none 0 0, .int .i64 0, .int .i64 0, .int .i64 0, .int .i64 0, .int .i64 0, .slice none 0 0] 28)
 have HB := Lib.hid (al2 w (.cells #[.int .i64 x.kind, .int .i64 x.src, .int .i64 x.dst, .slice oq x.path.parts.length cq, .int .i64 x.pi, .int .i64 x.hi, .int .i64 x.beta, .int .i64 x.rid, .int .i64 x.seq, v1] 28) (.cells #[.int .i64 0, .int .i64 0, .int .i64 0, .slice none 0 0, .int .i64 0, .int .i64 0, .int .i64 0, .int .i64 0, .int .i64 0, .slice none 0 0] 28))
 go_enter Tryz.func52, Tryz.ntmps52
 go_wp2_with fail
 refine planStep (.blk [0, 1, 2, 4, 5, 6, 7] (.one 3 (.one 8 (.one 9 .done)))) [9] (by kernel_rfl) (by kernel_rfl) ?_
 refine blkStep (fun K HK => ?_)
 simp only [PK]
 go_wp2_with fail
 refine HK.out _ _ ?_
 clear HK K
 refine oneStep (fun K HK => ?_)
 simp only [PK]
 go_wp2_with fail
 refine (i_ReversePath x.path _ _ (r0.ext hx0.drew) hl0).mono ?_
 rintro e w1 ⟨u1, rfl, o1', h1⟩
 obtain ⟨o1, c1, rfl, _⟩ := (Part.ord o1').shape
 have hs1 : w.heap.size + 1 + 1 ≤ w1.heap.size := by simpa using h1.size
 have hX1 := hx0.drew.trans h1
 go_wp2_with fail
 refine HK.out _ _ (h1) ?_
 clear HK K
 refine oneStep (fun K HK => ?_)
 simp only [PK]
 go_wp2_with fail
 refine (i_NewPacket kind (revPath x.path) _ x.rid seq pay _ _ (Part.ord o1') (rp.ext hX1) hl1 hp).mono ?_
 rintro e w2 ⟨a0, a1, rfl, oo, h2⟩
 obtain ⟨oa0, ca0, rfl, _⟩ := (Pkt.own_rd0 oo).shape
 obtain ⟨oa1, ca1, rfl, _⟩ := (Pkt.own_rd1 oo).shape
 have hX2 := hX1.trans h2
 have hbR := Ext.block (((Ext.refl _).drew.trans h1).trans h2) HB.out.2
 have hs2 := h2.size
 have hs3 : w.heap.size + 1 < w1.heap.size := blk_lt (Ext.block ((Ext.refl _).drew.trans h1) HB.out.2)
 have cR := blk10 hbR
 have gR0 := fr_of hbR 0
 have gR1 := fr_of hbR 1
 have gR2 := fr_of hbR 2
 have gR3 := fr_of hbR 3
 have gR4 := fr_of hbR 4
 have gR5 := fr_of hbR 5
 have gR6 := fr_of hbR 6
 have gR7 := fr_of hbR 7
 have gR8 := fr_of hbR 8
 have gR9 := fr_of hbR 9
 clear hbR
 go_wp2_with fail
 refine HK.out _ _ (h2) ?_
 clear HK K
 refine badStep (by kernel_rfl) (fun K HK => ?_)
 simp only [PK]
 go_wp2_with fail
 refine HK.out _ _ ?_
 clear HK K
 refine doneStep (by kernel_rfl) ?_
 go_wp2_with fail
 refine bodyPost_ret (v := .agg #[.int .i64 (newPkt kind (revPath x.path) x.rid seq pay).kind, .int .i64 (newPkt kind (revPath x.path) x.rid seq pay).src, .int .i64 (newPkt kind (revPath x.path) x.rid seq pay).dst, .slice oa0 (newPkt kind (revPath x.path) x.rid seq pay).path.parts.length ca0, .int .i64 (newPkt kind (revPath x.path) x.rid seq pay).pi, .int .i64 (newPkt kind (revPath x.path) x.rid seq pay).hi, .int .i64 (newPkt kind (revPath x.path) x.rid seq pay).beta, .int .i64 (newPkt kind (revPath x.path) x.rid seq pay).rid, .int .i64 (newPkt kind (revPath x.path) x.rid seq pay).seq, .slice oa1 (newPkt kind (revPath x.path) x.rid seq pay).pay.length ca1]) (by simp [results, Tryz.results52, go_sem, cR]) rfl ⟨_, _, rfl, ?_, ?_⟩
 ·
  refine Pkt.own_mono (Pkt.own_kept (T := fun b => b = w.heap.size + 1) oo ?_ (fun b hb e => by have h1 := hb.1; omega)) (fun b hb => ⟨by have h1 := hb.1; omega, by have h2 := hb.2; simp; omega⟩)
  have q (o : Nat) (u : Value) {wq : World} (h : Chg (fun b => b = w.heap.size + 1) w2 wq) := Chg.setCell (p := ⟨w.heap.size + 1, o, none⟩) h rfl u
  exact q _ _ (q _ _ (q _ _ (q _ _ (q _ _ (q _ _ (q _ _ (q _ _ (q _ _ (q _ _ (Chg.refl _ w2))))))))))
 ·
  have q (o : Nat) (u : Value) {wq : World} (h : Ext w wq) := Ext.setCell (p := ⟨w.heap.size + 1, o, none⟩) h (show w.heap.size ≤ w.heap.size + 1 by omega) u
  exact q _ _ (q _ _ (q _ _ (q _ _ (q _ _ (q _ _ (q _ _ (q _ _ (q _ _ (q _ _ hX2)))))))))
set_option maxRecDepth 100000 in
set_option maxHeartbeats 8000000 in
theorem s_Reply (x : Pkt) (v0 v1 : Value) (kind seq : Int) (pay : List Int) (vp : Value) (w : World) (r0 : RdS Part.rep w v0 x.path.parts) (_ : RdS Rep.byte w v1 x.pay) (rp : RdS Rep.byte w vp pay) (hl : x.size ≤ 1048576) (hp : pay.length ≤ 1048576) :
  Calls Tryz.prog 53 #[.agg #[.int .i64 x.kind, .int .i64 x.src, .int .i64 x.dst, v0, .int .i64 x.pi, .int .i64 x.hi, .int .i64 x.beta, .int .i64 x.rid, .int .i64 x.seq, v1], .int .i64 kind, .int .i64 seq, vp] w fun e w' => ∃ u0 u1, e = .returned (.agg #[.int .i64 (reply x kind seq pay).kind, .int .i64 (reply x kind seq pay).src, .int .i64 (reply x kind seq pay).dst, u0, .int .i64 (reply x kind seq pay).pi, .int .i64 (reply x kind seq pay).hi, .int .i64 (reply x kind seq pay).beta, .int .i64 (reply x kind seq pay).rid, .int .i64 (reply x kind seq pay).seq, u1]) ∧ Pkt.own (rng w.heap.size w'.heap.size) w' u0 u1 (reply x kind seq pay) ∧ Ext w w' := by
 have hl0 : x.path.size ≤ 1048576 := by unfold Pkt.size at hl; omega
 have hl1 : (revPath x.path).size ≤ 1048576 := by rw [revPath_size]; exact hl0
 clear hl
 obtain ⟨oq, cq, rfl, _⟩ := r0.shape
 have hx0 := ext2 w (.cells #[.int .i64 x.kind, .int .i64 x.src, .int .i64 x.dst, .slice oq x.path.parts.length cq, .int .i64 x.pi, .int .i64 x.hi, .int .i64 x.beta, .int .i64 x.rid, .int .i64 x.seq, v1] 28) (.cells #[.int .i64 0, .int .i64 0, .int .i64 0, .slice none 0 0, .int .i64 0, .int .i64 0, .int .i64 0, .int .i64 0, .int .i64 0, .slice none 0 0] 28)
 have HB := Lib.hid (al2 w (.cells #[.int .i64 x.kind, .int .i64 x.src, .int .i64 x.dst, .slice oq x.path.parts.length cq, .int .i64 x.pi, .int .i64 x.hi, .int .i64 x.beta, .int .i64 x.rid, .int .i64 x.seq, v1] 28) (.cells #[.int .i64 0, .int .i64 0, .int .i64 0, .slice none 0 0, .int .i64 0, .int .i64 0, .int .i64 0, .int .i64 0, .int .i64 0, .slice none 0 0] 28))
 go_enter Tryz.func53, Tryz.ntmps53
 go_wp2_with fail
 refine planStep (.blk [0, 1, 2, 4, 5, 6, 7] (.one 3 (.one 8 (.one 9 .done)))) [9] (by kernel_rfl) (by kernel_rfl) ?_
 refine blkStep (fun K HK => ?_)
 simp only [PK]
 go_wp2_with fail
 refine HK.out _ _ ?_
 clear HK K
 refine oneStep (fun K HK => ?_)
 simp only [PK]
 go_wp2_with fail
 refine (s_ReversePath x.path _ _ (r0.ext hx0.drew) hl0).mono ?_
 rintro e w1 ⟨u1, rfl, o1', h1⟩
 obtain ⟨o1, c1, rfl, _⟩ := (Part.ord o1').shape
 have hs1 : w.heap.size + 1 + 1 ≤ w1.heap.size := by simpa using h1.size
 have hX1 := hx0.drew.trans h1
 go_wp2_with fail
 refine HK.out _ _ (h1) ?_
 clear HK K
 refine oneStep (fun K HK => ?_)
 simp only [PK]
 go_wp2_with fail
 refine (s_NewPacket kind (revPath x.path) _ x.rid seq pay _ _ (Part.ord o1') (rp.ext hX1) hl1 hp).mono ?_
 rintro e w2 ⟨a0, a1, rfl, oo, h2⟩
 obtain ⟨oa0, ca0, rfl, _⟩ := (Pkt.own_rd0 oo).shape
 obtain ⟨oa1, ca1, rfl, _⟩ := (Pkt.own_rd1 oo).shape
 have hX2 := hX1.trans h2
 have hbR := Ext.block (((Ext.refl _).drew.trans h1).trans h2) HB.out.2
 have hs2 := h2.size
 have hs3 : w.heap.size + 1 < w1.heap.size := blk_lt (Ext.block ((Ext.refl _).drew.trans h1) HB.out.2)
 have cR := blk10 hbR
 have gR0 := fr_of hbR 0
 have gR1 := fr_of hbR 1
 have gR2 := fr_of hbR 2
 have gR3 := fr_of hbR 3
 have gR4 := fr_of hbR 4
 have gR5 := fr_of hbR 5
 have gR6 := fr_of hbR 6
 have gR7 := fr_of hbR 7
 have gR8 := fr_of hbR 8
 have gR9 := fr_of hbR 9
 clear hbR
 go_wp2_with fail
 refine HK.out _ _ (h2) ?_
 clear HK K
 refine badStep (by kernel_rfl) (fun K HK => ?_)
 simp only [PK]
 go_wp2_with fail
 refine HK.out _ _ ?_
 clear HK K
 refine doneStep (by kernel_rfl) ?_
 go_wp2_with fail
 refine bodyPost_ret (v := .agg #[.int .i64 (newPkt kind (revPath x.path) x.rid seq pay).kind, .int .i64 (newPkt kind (revPath x.path) x.rid seq pay).src, .int .i64 (newPkt kind (revPath x.path) x.rid seq pay).dst, .slice oa0 (newPkt kind (revPath x.path) x.rid seq pay).path.parts.length ca0, .int .i64 (newPkt kind (revPath x.path) x.rid seq pay).pi, .int .i64 (newPkt kind (revPath x.path) x.rid seq pay).hi, .int .i64 (newPkt kind (revPath x.path) x.rid seq pay).beta, .int .i64 (newPkt kind (revPath x.path) x.rid seq pay).rid, .int .i64 (newPkt kind (revPath x.path) x.rid seq pay).seq, .slice oa1 (newPkt kind (revPath x.path) x.rid seq pay).pay.length ca1]) (by simp [results, Tryz.results53, go_sem, cR]) rfl ⟨_, _, rfl, ?_, ?_⟩
 ·
  refine Pkt.own_mono (Pkt.own_kept (T := fun b => b = w.heap.size + 1) oo ?_ (fun b hb e => by have h1 := hb.1; omega)) (fun b hb => ⟨by have h1 := hb.1; omega, by have h2 := hb.2; simp; omega⟩)
  have q (o : Nat) (u : Value) {wq : World} (h : Chg (fun b => b = w.heap.size + 1) w2 wq) := Chg.setCell (p := ⟨w.heap.size + 1, o, none⟩) h rfl u
  exact q _ _ (q _ _ (q _ _ (q _ _ (q _ _ (q _ _ (q _ _ (q _ _ (q _ _ (q _ _ (Chg.refl _ w2))))))))))
 ·
  have q (o : Nat) (u : Value) {wq : World} (h : Ext w wq) := Ext.setCell (p := ⟨w.heap.size + 1, o, none⟩) h (show w.heap.size ≤ w.heap.size + 1 by omega) u
  exact q _ _ (q _ _ (q _ _ (q _ _ (q _ _ (q _ _ (q _ _ (q _ _ (q _ _ (q _ _ hX2)))))))))
end
end Go.Proofs.YtikbeiafobnblaaGreat
