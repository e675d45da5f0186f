/- What these laws need: FnForwards, FnHopsPassed, FnReplies: Contracts of new packets and replies, program and reference. -/
import Derived.Test.YtikbeiafobnblaaGreatKR6
import Derived.Test.YtikbeiafobnblaaGreatKR20
namespace Go.Proofs.YtikbeiafobnblaaGreat
section
open Go.ChangeShapes Go.WideShapes Go.ChangeAt Go.RowKit Go.Deep
def beta0 : List Part → Int
 | [] => 0
 | x :: _ => x.beta
theorem beta0_at {l : List Part} (h : 0 < l.length) : beta0 l = l[0].beta := by
 cases l with
 | nil => cases h
 | cons x l => rfl
theorem beta0_nil {l : List Part} (h : ¬ 0 < l.length) : beta0 l = 0 := by
 cases l with
 | nil => rfl
 | cons x l => exact absurd (by simp) h
def newPkt (kind : Int) (p : Pth) (rid seq : Int) (pay : List Int) : Pkt := ⟨kind, (ends p.parts).1, (ends p.parts).2, p, 0, 0, beta0 p.parts, rid, seq, pay⟩
set_option maxRecDepth 100000 in
set_option maxHeartbeats 8000000 in
theorem s_NewPacket (kind : Int) (p : Pth) (v : Value) (rid seq : Int) (pay : List Int) (vp : Value) (w : World) (r : RdS Part.rep w v p.parts) (rp : RdS Rep.byte w vp pay) (hl : p.size ≤ 1048576) (hp : pay.length ≤ 1048576) :
  Calls Tryz.prog 161 #[.int .i64 kind, .agg #[v], .int .i64 rid, .int .i64 seq, vp] w fun e w' => ∃ u0 u1, e = .returned (.agg #[.int .i64 (newPkt kind p rid seq pay).kind, .int .i64 (newPkt kind p rid seq pay).src, .int .i64 (newPkt kind p rid seq pay).dst, u0, .int .i64 (newPkt kind p rid seq pay).pi, .int .i64 (newPkt kind p rid seq pay).hi, .int .i64 (newPkt kind p rid seq pay).beta, .int .i64 (newPkt kind p rid seq pay).rid, .int .i64 (newPkt kind p rid seq pay).seq, u1]) ∧ Pkt.own (rng w.heap.size w'.heap.size) w' u0 u1 (newPkt kind p rid seq pay) ∧ Ext w w' := by
 obtain ⟨oq, cq, rfl, _⟩ := r.shape
 have hx0 := ext2 w (.cells #[.slice oq p.parts.length cq] 26) (.cells #[.int .i64 0, .int .i64 0, .int .i64 0, .slice none 0 0, .int .i64 0, .int .i64 0, .int .i64 0, .int .i64 0, .int .i64 0, .slice none 0 0] 28)
 have HB := Lib.hid (al2 w (.cells #[.slice oq p.parts.length cq] 26) (.cells #[.int .i64 0, .int .i64 0, .int .i64 0, .slice none 0 0, .int .i64 0, .int .i64 0, .int .i64 0, .int .i64 0, .int .i64 0, .slice none 0 0] 28))
 go_enter Tryz.func161, Tryz.ntmps161
 go_wp2_with fail
 refine (s_Endpoints p _ _ (r.ext hx0) hl).mono ?_
 rintro e w1 ⟨rfl, h1⟩
 have hs1 := h1.size
 simp only [nblk_alloc] at hs1
 have hX1 := hx0.trans h1
 have hcb1 := blk1 (Ext.block h1 HB.out.1)
 go_wp2_with fail
 refine (s_l22Copy p _ _ (r.ext hX1) hl).mono ?_
 rintro e w2 ⟨u1, rfl, o1', h2⟩
 obtain ⟨o1, c1, rfl, _⟩ := (Part.ord o1').shape
 have hs2 := h2.size
 have hX2 := hX1.trans h2
 obtain ⟨E⟩ := elemByte
 have hoe := OwnF.empty byteF 1 w2.heap.size 5 w2 (Nat.le_refl _)
 have hrp := rp.ext (hX2.alloc (.cells #[] 5))
 go_wp2_with (at_builtin; refine appS E byteFlen byteOne rfl _ _ rfl pay rfl hoe rfl hrp (by first | omega | (simp; omega)) (by first | (unfold maxLen; omega) | (simp [maxLen]; omega)) (by simp) ?_)
 intro v3 w3 o3 hg3
 try rw [List.nil_append] at o3
 have h3 : Ext w2 w3 := ((Ext.refl w2).alloc _).app hg3 hoe (Nat.le_refl _)
 clear hg3 hoe hrp
 obtain ⟨o2, c2, rfl, _⟩ := (OwnF.rd (hf := byteFlen) o3).shape
 have hs3 := h3.size
 have hX3 := hX2.trans h3
 have O1' := Lib.hid (Own.ext o1' h3)
 have O2' := Lib.hid (Own.ofF (hf := byteFlen) o3)
 clear o1' o3
 have hbR3 := Ext.block ((h1.trans h2).trans h3) HB.out.2
 have hsR : w.heap.size + 1 < w3.heap.size := blk_lt hbR3
 have hcb3 := blk1 (Ext.block ((h1.trans h2).trans h3) HB.out.1)
 have hcb4 := blk1 (Ext.block (((h1.trans h2).trans h3).alloc (.cells #[.int .i64 kind, .int .i64 (ends p.parts).1, .int .i64 (ends p.parts).2, .slice o1 p.parts.length c1, .int .i64 0, .int .i64 0, .int .i64 0, .int .i64 rid, .int .i64 seq, .slice o2 pay.length c2] 28)) HB.out.1)
 by_cases hn : 0 < p.parts.length
 ·
  have hbo := Part.at r 0 hn
  obtain ⟨b, off, oh, ch, rfl, hc, _⟩ := Part.at (r.ext hX3) 0 hn
  have hcz := hc
  simp only [Nat.zero_mul, Nat.add_zero] at hc
  have HBT := Lib.hid (beta0_at hn)
  have hn0 : (0 : Int) < (p.parts.length : Int) := by omega
  have hbo : b < w.heap.size := by
   obtain ⟨b', off', oh', ch', e', hc', _⟩ := hbo
   cases e'
   exact World.block_lt_of_cell? w ⟨b, off + 0 * 4, none⟩ hc'.1
  have hne : b ≠ w3.heap.size := by omega
  have key : ∃ w5, w5 = ((((((((((w3.setCell ⟨w.heap.size + 1, 0, none⟩ (.int .i64 kind)).setCell ⟨w.heap.size + 1, 1, none⟩ (.int .i64 (ends p.parts).1)).setCell ⟨w.heap.size + 1, 2, none⟩ (.int .i64 (ends p.parts).2)).setCell ⟨w.heap.size + 1, 3, none⟩ (.slice o1 p.parts.length c1)).setCell ⟨w.heap.size + 1, 4, none⟩ (.int .i64 0)).setCell ⟨w.heap.size + 1, 5, none⟩ (.int .i64 0)).setCell ⟨w.heap.size + 1, 6, none⟩ (.int .i64 p.parts[0].beta)).setCell ⟨w.heap.size + 1, 7, none⟩ (.int .i64 rid)).setCell ⟨w.heap.size + 1, 8, none⟩ (.int .i64 seq)).setCell ⟨w.heap.size + 1, 9, none⟩ (.slice o2 pay.length c2)) ∧ w5.heap[w.heap.size + 1]? = some (.cells #[.int .i64 kind, .int .i64 (ends p.parts).1, .int .i64 (ends p.parts).2, .slice o1 p.parts.length c1, .int .i64 0, .int .i64 0, .int .i64 p.parts[0].beta, .int .i64 rid, .int .i64 seq, .slice o2 pay.length c2] 28) ∧ Part.own.own (rng w1.heap.size w2.heap.size) w5 (.slice o1 p.parts.length c1) p.parts ∧ byteOwn.own (rng w2.heap.size w3.heap.size) w5 (.slice o2 pay.length c2) pay ∧ Ext w w5 ∧ w5.heap.size = w3.heap.size := by
   have hC : Chg (fun b => b = w.heap.size + 1) w3 ((((((((((w3.setCell ⟨w.heap.size + 1, 0, none⟩ (.int .i64 kind)).setCell ⟨w.heap.size + 1, 1, none⟩ (.int .i64 (ends p.parts).1)).setCell ⟨w.heap.size + 1, 2, none⟩ (.int .i64 (ends p.parts).2)).setCell ⟨w.heap.size + 1, 3, none⟩ (.slice o1 p.parts.length c1)).setCell ⟨w.heap.size + 1, 4, none⟩ (.int .i64 0)).setCell ⟨w.heap.size + 1, 5, none⟩ (.int .i64 0)).setCell ⟨w.heap.size + 1, 6, none⟩ (.int .i64 p.parts[0].beta)).setCell ⟨w.heap.size + 1, 7, none⟩ (.int .i64 rid)).setCell ⟨w.heap.size + 1, 8, none⟩ (.int .i64 seq)).setCell ⟨w.heap.size + 1, 9, none⟩ (.slice o2 pay.length c2)) := by
    have q (o : Nat) (u : Value) {wq : World} (h : Chg (fun b => b = w.heap.size + 1) w3 wq) := Chg.setCell (p := ⟨w.heap.size + 1, o, none⟩) h rfl u
    exact q _ _ (q _ _ (q _ _ (q _ _ (q _ _ (q _ _ (q _ _ (q _ _ (q _ _ (q _ _ (Chg.refl _ w3))))))))))
   refine ⟨_, rfl, ?_, Part.own.kept O1'.out hC (fun b hb e => by have h1 := hb.1; omega), byteOwn.kept O2'.out hC (fun b hb e => by have h1 := hb.1; omega), ?_, by simp⟩
   ·
    have := (blk_set (blk_set (blk_set (blk_set (blk_set (blk_set (blk_set (blk_set (blk_set (blk_set hbR3 0 (.int .i64 kind)) 1 (.int .i64 (ends p.parts).1)) 2 (.int .i64 (ends p.parts).2)) 3 (.slice o1 p.parts.length c1)) 4 (.int .i64 0)) 5 (.int .i64 0)) 6 (.int .i64 p.parts[0].beta)) 7 (.int .i64 rid)) 8 (.int .i64 seq)) 9 (.slice o2 pay.length c2))
    simpa using this
   ·
    have q (o : Nat) (u : Value) {wq : World} (h : Ext w wq) := Ext.setCell (p := ⟨w.heap.size + 1, o, none⟩) h (show w.heap.size ≤ w.heap.size + 1 by omega) u
    exact q _ _ (q _ _ (q _ _ (q _ _ (q _ _ (q _ _ (q _ _ (q _ _ (q _ _ (q _ _ hX3)))))))))
  obtain ⟨w5, hw5, hb5, O1, O2, hx5, hz5⟩ := key
  have HW5 := Lib.hid hw5; clear hw5
  have c5 := Lib.hid (blk10 (Ext.block ((Ext.refl w5).alloc (.cells #[.int .i64 kind, .int .i64 (ends p.parts).1, .int .i64 (ends p.parts).2, .slice o1 p.parts.length c1, .int .i64 0, .int .i64 0, .int .i64 p.parts[0].beta, .int .i64 rid, .int .i64 seq, .slice o2 pay.length c2] 28)) hb5)); clear hb5
  have cR3 := blk10 hbR3
  have gS0 := fr_of hbR3 0
  have gS1 := fr_of hbR3 1
  have gS2 := fr_of hbR3 2
  have gS3 := fr_of hbR3 3
  have gS4 := fr_of hbR3 4
  have gS5 := fr_of hbR3 5
  have gS6 := fr_of hbR3 6
  have gS7 := fr_of hbR3 7
  have gS8 := fr_of hbR3 8
  have gS9 := fr_of hbR3 9
  have hc1 := Part.at_ext (k := 0) ((Ext.refl w3).alloc (.cells #[.int .i64 kind, .int .i64 (ends p.parts).1, .int .i64 (ends p.parts).2, .slice o1 p.parts.length c1, .int .i64 0, .int .i64 0, .int .i64 0, .int .i64 rid, .int .i64 seq, .slice o2 pay.length c2] 28)) hcz
  simp only [Nat.zero_mul, Nat.add_zero] at hc1
  go_wp2_with fail
  rw [← HW5.out]
  clear cR3 gS0 gS1 gS2 gS3 gS4 gS5 gS6 gS7 gS8 gS9
  have cc := c5.out
  refine bodyPost_ret (v := .agg #[.int .i64 kind, .int .i64 (ends p.parts).1, .int .i64 (ends p.parts).2, .slice o1 p.parts.length c1, .int .i64 0, .int .i64 0, .int .i64 p.parts[0].beta, .int .i64 rid, .int .i64 seq, .slice o2 pay.length c2]) (by simp [results, Tryz.results161, go_sem, cc]) rfl ?_
  unfold newPkt
  rw [HBT.out]
  refine ⟨_, _, rfl, ⟨_, _, Own.ext O1 ((Ext.refl w5).alloc _), Own.ext O2 ((Ext.refl w5).alloc _), ?_, ?_, ?_⟩, hx5.alloc _⟩
  ·
   intro b hb
   have h1 := hb.1; have h2 := hb.2
   refine ⟨by omega, ?_⟩
   simp
   omega
  ·
   intro b hb
   have h1 := hb.1; have h2 := hb.2
   refine ⟨by omega, ?_⟩
   simp
   omega
  ·
   intro b hb h2
   have h3 := hb.2; have h4 := h2.1
   omega
 ·
  have HBT := Lib.hid (beta0_nil hn)
  have hn0 : ¬ (0 : Int) < (p.parts.length : Int) := by omega
  have key : ∃ w5, w5 = ((((((((((w3.setCell ⟨w.heap.size + 1, 0, none⟩ (.int .i64 kind)).setCell ⟨w.heap.size + 1, 1, none⟩ (.int .i64 (ends p.parts).1)).setCell ⟨w.heap.size + 1, 2, none⟩ (.int .i64 (ends p.parts).2)).setCell ⟨w.heap.size + 1, 3, none⟩ (.slice o1 p.parts.length c1)).setCell ⟨w.heap.size + 1, 4, none⟩ (.int .i64 0)).setCell ⟨w.heap.size + 1, 5, none⟩ (.int .i64 0)).setCell ⟨w.heap.size + 1, 6, none⟩ (.int .i64 0)).setCell ⟨w.heap.size + 1, 7, none⟩ (.int .i64 rid)).setCell ⟨w.heap.size + 1, 8, none⟩ (.int .i64 seq)).setCell ⟨w.heap.size + 1, 9, none⟩ (.slice o2 pay.length c2)) ∧ w5.heap[w.heap.size + 1]? = some (.cells #[.int .i64 kind, .int .i64 (ends p.parts).1, .int .i64 (ends p.parts).2, .slice o1 p.parts.length c1, .int .i64 0, .int .i64 0, .int .i64 0, .int .i64 rid, .int .i64 seq, .slice o2 pay.length c2] 28) ∧ Part.own.own (rng w1.heap.size w2.heap.size) w5 (.slice o1 p.parts.length c1) p.parts ∧ byteOwn.own (rng w2.heap.size w3.heap.size) w5 (.slice o2 pay.length c2) pay ∧ Ext w w5 ∧ w5.heap.size = w3.heap.size := by
   have hC : Chg (fun b => b = w.heap.size + 1) w3 ((((((((((w3.setCell ⟨w.heap.size + 1, 0, none⟩ (.int .i64 kind)).setCell ⟨w.heap.size + 1, 1, none⟩ (.int .i64 (ends p.parts).1)).setCell ⟨w.heap.size + 1, 2, none⟩ (.int .i64 (ends p.parts).2)).setCell ⟨w.heap.size + 1, 3, none⟩ (.slice o1 p.parts.length c1)).setCell ⟨w.heap.size + 1, 4, none⟩ (.int .i64 0)).setCell ⟨w.heap.size + 1, 5, none⟩ (.int .i64 0)).setCell ⟨w.heap.size + 1, 6, none⟩ (.int .i64 0)).setCell ⟨w.heap.size + 1, 7, none⟩ (.int .i64 rid)).setCell ⟨w.heap.size + 1, 8, none⟩ (.int .i64 seq)).setCell ⟨w.heap.size + 1, 9, none⟩ (.slice o2 pay.length c2)) := by
    have q (o : Nat) (u : Value) {wq : World} (h : Chg (fun b => b = w.heap.size + 1) w3 wq) := Chg.setCell (p := ⟨w.heap.size + 1, o, none⟩) h rfl u
    exact q _ _ (q _ _ (q _ _ (q _ _ (q _ _ (q _ _ (q _ _ (q _ _ (q _ _ (q _ _ (Chg.refl _ w3))))))))))
   refine ⟨_, rfl, ?_, Part.own.kept O1'.out hC (fun b hb e => by have h1 := hb.1; omega), byteOwn.kept O2'.out hC (fun b hb e => by have h1 := hb.1; omega), ?_, by simp⟩
   ·
    have := (blk_set (blk_set (blk_set (blk_set (blk_set (blk_set (blk_set (blk_set (blk_set (blk_set hbR3 0 (.int .i64 kind)) 1 (.int .i64 (ends p.parts).1)) 2 (.int .i64 (ends p.parts).2)) 3 (.slice o1 p.parts.length c1)) 4 (.int .i64 0)) 5 (.int .i64 0)) 6 (.int .i64 0)) 7 (.int .i64 rid)) 8 (.int .i64 seq)) 9 (.slice o2 pay.length c2))
    simpa using this
   ·
    have q (o : Nat) (u : Value) {wq : World} (h : Ext w wq) := Ext.setCell (p := ⟨w.heap.size + 1, o, none⟩) h (show w.heap.size ≤ w.heap.size + 1 by omega) u
    exact q _ _ (q _ _ (q _ _ (q _ _ (q _ _ (q _ _ (q _ _ (q _ _ (q _ _ (q _ _ hX3)))))))))
  obtain ⟨w5, hw5, hb5, O1, O2, hx5, hz5⟩ := key
  have HW5 := Lib.hid hw5; clear hw5
  have c5 := Lib.hid (blk10 (Ext.block ((Ext.refl w5).alloc (.cells #[.int .i64 kind, .int .i64 (ends p.parts).1, .int .i64 (ends p.parts).2, .slice o1 p.parts.length c1, .int .i64 0, .int .i64 0, .int .i64 0, .int .i64 rid, .int .i64 seq, .slice o2 pay.length c2] 28)) hb5)); clear hb5
  have cR3 := blk10 hbR3
  have gS0 := fr_of hbR3 0
  have gS1 := fr_of hbR3 1
  have gS2 := fr_of hbR3 2
  have gS3 := fr_of hbR3 3
  have gS4 := fr_of hbR3 4
  have gS5 := fr_of hbR3 5
  have gS6 := fr_of hbR3 6
  have gS7 := fr_of hbR3 7
  have gS8 := fr_of hbR3 8
  have gS9 := fr_of hbR3 9
  go_wp2_with fail
  rw [← HW5.out]
  clear cR3 gS0 gS1 gS2 gS3 gS4 gS5 gS6 gS7 gS8 gS9
  have cc := c5.out
  refine bodyPost_ret (v := .agg #[.int .i64 kind, .int .i64 (ends p.parts).1, .int .i64 (ends p.parts).2, .slice o1 p.parts.length c1, .int .i64 0, .int .i64 0, .int .i64 0, .int .i64 rid, .int .i64 seq, .slice o2 pay.length c2]) (by simp [results, Tryz.results161, go_sem, cc]) rfl ?_
  unfold newPkt
  rw [HBT.out]
  refine ⟨_, _, rfl, ⟨_, _, Own.ext O1 ((Ext.refl w5).alloc _), Own.ext O2 ((Ext.refl w5).alloc _), ?_, ?_, ?_⟩, hx5.alloc _⟩
  ·
   intro b hb
   have h1 := hb.1; have h2 := hb.2
   refine ⟨by omega, ?_⟩
   simp
   omega
  ·
   intro b hb
   have h1 := hb.1; have h2 := hb.2
   refine ⟨by omega, ?_⟩
   simp
   omega
  ·
   intro b hb h2
   have h3 := hb.2; have h4 := h2.1
   omega
end
end Go.Proofs.YtikbeiafobnblaaGreat
