/- What these laws need: FnForwards: Contracts of the check of a hop and of what becomes of a packet at an AS, program and reference. -/
import Derived.Test.YtcpfmhgfaliemaaGreatKF21
namespace Go.Proofs.YtcpfmhgfaliemaaGreat
section
open Go.ChangeShapes Go.WideShapes Go.ChangeAt Go.RowKit Go.Deep
theorem vd_set {w : World} {b : Nat} {x0 x1 x2 x3 x4 x5 x6 x7 x8 x9 x10 x11 : Value} {t : TypeId} (h : w.heap[b]? = some (.cells #[x0, x1, x2, x3, x4, x5, x6, x7, x8, x9, x10, x11] t (0, 0))) (y0 y1 y2 y3 y4 y5 y6 y7 y8 y9 y10 y11 : Value) :
  ∃ w5, w5 = ((((((((((((w.setCell ⟨b, 0, none⟩ y0).setCell ⟨b, 1, none⟩ y1).setCell ⟨b, 2, none⟩ y2).setCell ⟨b, 3, none⟩ y3).setCell ⟨b, 4, none⟩ y4).setCell ⟨b, 5, none⟩ y5).setCell ⟨b, 6, none⟩ y6).setCell ⟨b, 7, none⟩ y7).setCell ⟨b, 8, none⟩ y8).setCell ⟨b, 9, none⟩ y9).setCell ⟨b, 10, none⟩ y10).setCell ⟨b, 11, none⟩ y11) ∧ w5.heap[b]? = some (.cells #[y0, y1, y2, y3, y4, y5, y6, y7, y8, y9, y10, y11] t (0, 0)) ∧ Chg (fun i => i = b) w w5 ∧ w5.heap.size = w.heap.size := by
 refine ⟨_, rfl, by simpa using (blk_set (blk_set (blk_set (blk_set (blk_set (blk_set (blk_set (blk_set (blk_set (blk_set (blk_set (blk_set h 0 y0) 1 y1) 2 y2) 3 y3) 4 y4) 5 y5) 6 y6) 7 y7) 8 y8) 9 y9) 10 y10) 11 y11), ?_, by simp⟩; have q (o : Nat) (u : Value) {wq : World} (h : Chg (fun i => i = b) w wq) := Chg.setCell (p := ⟨b, o, none⟩) h rfl u; exact q _ _ (q _ _ (q _ _ (q _ _ (q _ _ (q _ _ (q _ _ (q _ _ (q _ _ (q _ _ (q _ _ (q _ _ (Chg.refl _ w))))))))))))
def chkP (t : Topo) (now : Int) (x : Pkt) : Pkt := if chkCode t now x = 0 then verCur t x else x
theorem chkP_0 {t : Topo} {now : Int} {x : Pkt} (h : chkCode t now x = 0) : chkP t now x = verCur t x := if_pos h
theorem chkP_n {t : Topo} {now : Int} {x : Pkt} (h : ¬ chkCode t now x = 0) : chkP t now x = x := if_neg h
theorem verCur_path (t : Topo) (x : Pkt) : (verCur t x).path = x.path := by unfold verCur; split <;> rfl
theorem verCur_pi (t : Topo) (x : Pkt) : (verCur t x).pi = x.pi := by unfold verCur; split <;> rfl
theorem verCur_curAs (t : Topo) (x : Pkt) : curAs (verCur t x) = curAs x := by unfold verCur; split <;> rfl
theorem curIn_ver (t : Topo) (x : Pkt) (now : Int) : curIn (verCur t x) now = curIn x now := by unfold verCur; split <;> rfl
theorem code_4 {t : Topo} {now : Int} {x : Pkt} (h : curOk t x = false) : chkCode t now x = 4 := by unfold chkCode; rw [h]; rfl
theorem code_5 {t : Topo} {now : Int} {x : Pkt} (h : curOk t x = true) (h2 : curIn x now = false) : chkCode t now x = 5 := by unfold chkCode; rw [h, h2]; rfl
theorem code_0 {t : Topo} {now : Int} {x : Pkt} (h : curOk t x = true) (h2 : curIn x now = true) : chkCode t now x = 0 := by unfold chkCode; rw [h, h2]; rfl
theorem verCur_size (t : Topo) (x : Pkt) : (verCur t x).size = x.size := by unfold verCur; split <;> rfl
set_option maxRecDepth 100000 in
set_option maxHeartbeats 16000000 in
theorem i_checkHop (t : Topo) (va vk : Value) (now : Int) (x : Pkt) (v0 v1 : Value) (w : World) (ha : RdS ASd.rep w va t.ases) (hk : RdS Lnk.rep w vk t.links) (r0 : RdS Part.rep w v0 x.path.parts) (r1 : RdS Rep.byte w v1 x.pay) (hl : x.size ≤ 1048576) :
  Calls Tryz.prog 179 #[.agg #[va, vk], .int .i64 now, .agg #[.int .i64 x.kind, .int .i64 x.src, .int .i64 x.dst, v0, .int .i64 x.pi, .int .i64 x.hi, .int .i64 x.beta, .int .i64 x.rid, .int .i64 x.seq, v1]] w fun e w' => ∃ u0 u1, e = .returned (.tuple #[.agg #[.int .i64 (chkP t now x).kind, .int .i64 (chkP t now x).src, .int .i64 (chkP t now x).dst, u0, .int .i64 (chkP t now x).pi, .int .i64 (chkP t now x).hi, .int .i64 (chkP t now x).beta, .int .i64 (chkP t now x).rid, .int .i64 (chkP t now x).seq, u1], .int .i64 (chkCode t now x)]) ∧ RdS Part.rep w' u0 (chkP t now x).path.parts ∧ RdS Rep.byte w' u1 (chkP t now x).pay ∧ (chkCode t now x = 0 → Pkt.own (rng w.heap.size w'.heap.size) w' u0 u1 (chkP t now x)) ∧ Ext w w' := by
 obtain ⟨o, cap, rfl, hsm⟩ := r0.shape; obtain ⟨oy, cy, rfl, hsy⟩ := r1.shape; have hx0 := ext3 w (.cells #[va, vk] 56) (.cells #[.int .i64 x.kind, .int .i64 x.src, .int .i64 x.dst, .slice o x.path.parts.length cap, .int .i64 x.pi, .int .i64 x.hi, .int .i64 x.beta, .int .i64 x.rid, .int .i64 x.seq, .slice oy x.pay.length cy] 58) (.cells #[.int .i64 0, .int .i64 0, .int .i64 0, .slice none 0 0, .int .i64 0, .int .i64 0, .int .i64 0, .int .i64 0, .int .i64 0, .slice none 0 0] 58); have HB0 := Lib.hid (al3 w (.cells #[va, vk] 56) (.cells #[.int .i64 x.kind, .int .i64 x.src, .int .i64 x.dst, .slice o x.path.parts.length cap, .int .i64 x.pi, .int .i64 x.hi, .int .i64 x.beta, .int .i64 x.rid, .int .i64 x.seq, .slice oy x.pay.length cy] 58) (.cells #[.int .i64 0, .int .i64 0, .int .i64 0, .slice none 0 0, .int .i64 0, .int .i64 0, .int .i64 0, .int .i64 0, .int .i64 0, .slice none 0 0] 58))
 go_enter Tryz.func179, Tryz.ntmps179
 have cf1 := blk2 HB0.out.1; have cf2 := blk10 HB0.out.2.1; have cf3 := blk10 HB0.out.2.2
 go_wp2_with fail
 refine (i_VerifyCurrentHop t _ _ x _ _ _ (ha.ext hx0) (hk.ext hx0) (r0.ext hx0) (r1.ext hx0) hl).mono ?_; rintro e w1 ⟨u0, u1, rfl, oo, hz1⟩; have HZI := Lib.hid (curIn_ver t x now); generalize hz : verCur t x = z at *; have HZ := Lib.hid hz; clear hz; obtain ⟨o1, c1, rfl, _⟩ := (Pkt.own_rd0 oo).shape; obtain ⟨o2, c2, rfl, _⟩ := (Pkt.own_rd1 oo).shape; have hs1 : w.heap.size + 1 + 1 + 1 ≤ w1.heap.size := by simpa using hz1.size
 have OO := Lib.hid oo; clear oo
 try clear cf1
 try clear cf2
 try clear cf3
 have cf4 := blk2 (Ext.block hz1 HB0.out.1); have cf5 := blk10 (Ext.block hz1 HB0.out.2.1); have cf6 := blk10 (Ext.block hz1 HB0.out.2.2); have hx1 : Ext w1 (w1.alloc (.cells #[.int .i64 z.kind, .int .i64 z.src, .int .i64 z.dst, (.slice o1 z.path.parts.length c1), .int .i64 z.pi, .int .i64 z.hi, .int .i64 z.beta, .int .i64 z.rid, .int .i64 z.seq, (.slice o2 z.pay.length c2)] 58)) := (Ext.refl _).alloc _; have HB1 := Lib.hid (blk_new w1 (.cells #[.int .i64 z.kind, .int .i64 z.src, .int .i64 z.dst, (.slice o1 z.path.parts.length c1), .int .i64 z.pi, .int .i64 z.hi, .int .i64 z.beta, .int .i64 z.rid, .int .i64 z.seq, (.slice o2 z.pay.length c2)] 58))
 cases bo : curOk t x
 ·
  have HC := Lib.hid (code_4 (now := now) bo); have HP := Lib.hid (chkP_n (t := t) (now := now) (x := x) (by rw [HC.out]; decide)); have hsz := hx1.size; have hso : w1.heap.size < (w1.alloc (.cells #[.int .i64 z.kind, .int .i64 z.src, .int .i64 z.dst, (.slice o1 z.path.parts.length c1), .int .i64 z.pi, .int .i64 z.hi, .int .i64 z.beta, .int .i64 z.rid, .int .i64 z.seq, (.slice o2 z.pay.length c2)] 58)).heap.size := blk_lt (Ext.block (Ext.refl _) HB1.out); have hR := Ext.block (hz1.t hx1) HB0.out.2.2; obtain ⟨wc, hwc, hrc, hcc, hsc⟩ := pk_set hR (.int .i64 x.kind) (.int .i64 x.src) (.int .i64 x.dst) ((.slice o x.path.parts.length cap)) (.int .i64 x.pi) (.int .i64 x.hi) (.int .i64 x.beta) (.int .i64 x.rid) (.int .i64 x.seq) ((.slice oy x.pay.length cy)); have HXX := Lib.hid (((hx0.t hz1).t hx1).chg1 hcc (by omega)); have HWC := Lib.hid hwc; have HRC := Lib.hid hrc; have hsz2 : (w1.alloc (.cells #[.int .i64 z.kind, .int .i64 z.src, .int .i64 z.dst, (.slice o1 z.path.parts.length c1), .int .i64 z.pi, .int .i64 z.hi, .int .i64 z.beta, .int .i64 z.rid, .int .i64 z.seq, (.slice o2 z.pay.length c2)] 58)).heap.size = wc.heap.size := by rw [hsc]
  have hRF := fun o => fr_of hR o
  have gr0 := hRF 0; have gr1 := hRF 1; have gr2 := hRF 2; have gr3 := hRF 3; have gr4 := hRF 4; have gr5 := hRF 5; have gr6 := hRF 6; have gr7 := hRF 7; have gr8 := hRF 8; have gr9 := hRF 9; clear hRF hR  hwc hrc hcc hsc; have cf7 := blk2 (Ext.block (hz1.t hx1) HB0.out.1); have cf8 := blk10 (Ext.block (hz1.t hx1) HB0.out.2.1); have cf9 := blk10 (Ext.block (hz1.t hx1) HB0.out.2.2); have cf10 := blk10 HB1.out
  go_wp2_with fail
  rw [← HWC.out]; clear gr0 gr1 gr2 gr3 gr4 gr5 gr6 gr7 gr8 gr9 cf7 cf8 cf9 cf10; have cc := blk10 HRC.out; refine bodyPost_ret (v := .tuple #[.agg #[.int .i64 x.kind, .int .i64 x.src, .int .i64 x.dst, (.slice o x.path.parts.length cap), .int .i64 x.pi, .int .i64 x.hi, .int .i64 x.beta, .int .i64 x.rid, .int .i64 x.seq, (.slice oy x.pay.length cy)], .int .i64 4]) (by simp [results, Tryz.results179, go_sem, cc]) rfl ?_; rw [HP.out, HC.out]; exact ⟨_, _, rfl, r0.ext HXX.out, r1.ext HXX.out, fun h => absurd h (by decide), HXX.out⟩
 ·
  have cf11 := blk2 (Ext.block (hz1.t hx1) HB0.out.1); have cf12 := blk10 (Ext.block (hz1.t hx1) HB0.out.2.1); have cf13 := blk10 (Ext.block (hz1.t hx1) HB0.out.2.2); have cf14 := blk10 HB1.out
  go_wp2_with fail
  refine (i_CurrentHopValid z _ _ now _ (Pkt.own_rd0 (Pkt.own_ext OO.out hx1))).mono ?_; rintro e w2 ⟨rfl, hz2⟩; rw [HZI.out]
  cases bi : curIn x now
  ·
   have HC := Lib.hid (code_5 bo bi); have HP := Lib.hid (chkP_n (t := t) (now := now) (x := x) (by rw [HC.out]; decide)); have hsz := (hx1.t hz2).size; have hso : w1.heap.size < w2.heap.size := blk_lt (Ext.block hz2 HB1.out); have hR := Ext.block ((hz1.t hx1).t hz2) HB0.out.2.2; obtain ⟨wc, hwc, hrc, hcc, hsc⟩ := pk_set hR (.int .i64 x.kind) (.int .i64 x.src) (.int .i64 x.dst) ((.slice o x.path.parts.length cap)) (.int .i64 x.pi) (.int .i64 x.hi) (.int .i64 x.beta) (.int .i64 x.rid) (.int .i64 x.seq) ((.slice oy x.pay.length cy)); have HXX := Lib.hid ((((hx0.t hz1).t hx1).t hz2).chg1 hcc (by omega)); have HWC := Lib.hid hwc; have HRC := Lib.hid hrc; have hsz2 : w2.heap.size = wc.heap.size := by rw [hsc]
   have hRF := fun o => fr_of hR o
   have gr0 := hRF 0; have gr1 := hRF 1; have gr2 := hRF 2; have gr3 := hRF 3; have gr4 := hRF 4; have gr5 := hRF 5; have gr6 := hRF 6; have gr7 := hRF 7; have gr8 := hRF 8; have gr9 := hRF 9; clear hRF hR  hwc hrc hcc hsc
   try clear cf11
   try clear cf12
   try clear cf13
   try clear cf14
   have cf15 := blk2 (Ext.block ((hz1.t hx1).t hz2) HB0.out.1); have cf16 := blk10 (Ext.block ((hz1.t hx1).t hz2) HB0.out.2.1); have cf17 := blk10 (Ext.block ((hz1.t hx1).t hz2) HB0.out.2.2); have cf18 := blk10 (Ext.block hz2 HB1.out)
   go_wp2_with fail
   rw [← HWC.out]; clear gr0 gr1 gr2 gr3 gr4 gr5 gr6 gr7 gr8 gr9 cf15 cf16 cf17 cf18; have cc := blk10 HRC.out; refine bodyPost_ret (v := .tuple #[.agg #[.int .i64 x.kind, .int .i64 x.src, .int .i64 x.dst, (.slice o x.path.parts.length cap), .int .i64 x.pi, .int .i64 x.hi, .int .i64 x.beta, .int .i64 x.rid, .int .i64 x.seq, (.slice oy x.pay.length cy)], .int .i64 5]) (by simp [results, Tryz.results179, go_sem, cc]) rfl ?_; rw [HP.out, HC.out]; exact ⟨_, _, rfl, r0.ext HXX.out, r1.ext HXX.out, fun h => absurd h (by decide), HXX.out⟩
  ·
   have HC := Lib.hid (code_0 bo bi); have HP := Lib.hid ((chkP_0 HC.out).trans HZ.out); have hsz := (hx1.t hz2).size; have hso : w1.heap.size < w2.heap.size := blk_lt (Ext.block hz2 HB1.out); have hR := Ext.block ((hz1.t hx1).t hz2) HB0.out.2.2; have hO := Ext.block hz2 HB1.out; obtain ⟨wc, hwc, hrc, hcc, hsc⟩ := pk_set hR (.int .i64 z.kind) (.int .i64 z.src) (.int .i64 z.dst) ((.slice o1 z.path.parts.length c1)) (.int .i64 z.pi) (.int .i64 z.hi) (.int .i64 z.beta) (.int .i64 z.rid) (.int .i64 z.seq) ((.slice o2 z.pay.length c2)); have HOW := Lib.hid (Pkt.own_kept (Pkt.own_ext OO.out (hx1.t hz2)) hcc (fun b hb e => by have h1 := hb.1; have h2 := hb.2; simp at h1; omega)); have HXX := Lib.hid ((((hx0.t hz1).t hx1).t hz2).chg1 hcc (by omega)); have HWC := Lib.hid hwc; have HRC := Lib.hid hrc; have hsz2 : w2.heap.size = wc.heap.size := by rw [hsc]
   have hRF := fun o => fr_of hR o
   have gr0 := hRF 0; have gr1 := hRF 1; have gr2 := hRF 2; have gr3 := hRF 3; have gr4 := hRF 4; have gr5 := hRF 5; have gr6 := hRF 6; have gr7 := hRF 7; have gr8 := hRF 8; have gr9 := hRF 9; clear hRF hR hO  hwc hrc hcc hsc
   try clear cf11
   try clear cf12
   try clear cf13
   try clear cf14
   have cf19 := blk2 (Ext.block ((hz1.t hx1).t hz2) HB0.out.1); have cf20 := blk10 (Ext.block ((hz1.t hx1).t hz2) HB0.out.2.1); have cf21 := blk10 (Ext.block ((hz1.t hx1).t hz2) HB0.out.2.2); have cf22 := blk10 (Ext.block hz2 HB1.out)
   go_wp2_with fail
   rw [← HWC.out]; clear gr0 gr1 gr2 gr3 gr4 gr5 gr6 gr7 gr8 gr9 cf19 cf20 cf21 cf22; have cc := blk10 HRC.out; refine bodyPost_ret (v := .tuple #[.agg #[.int .i64 z.kind, .int .i64 z.src, .int .i64 z.dst, (.slice o1 z.path.parts.length c1), .int .i64 z.pi, .int .i64 z.hi, .int .i64 z.beta, .int .i64 z.rid, .int .i64 z.seq, (.slice o2 z.pay.length c2)], .int .i64 0]) (by simp [results, Tryz.results179, go_sem, cc]) rfl ?_; rw [HP.out, HC.out]; exact ⟨_, _, rfl, Pkt.own_rd0 HOW.out, Pkt.own_rd1 HOW.out, fun _ => Pkt.own_mono HOW.out (fun b hb => ⟨by have h1 := hb.1; simp at h1; omega, by have h2 := hb.2; omega⟩), HXX.out⟩
set_option maxRecDepth 100000 in
set_option maxHeartbeats 16000000 in
theorem s_l28Check (t : Topo) (va vk : Value) (now : Int) (x : Pkt) (v0 v1 : Value) (w : World) (ha : RdS ASd.rep w va t.ases) (hk : RdS Lnk.rep w vk t.links) (r0 : RdS Part.rep w v0 x.path.parts) (r1 : RdS Rep.byte w v1 x.pay) (hl : x.size ≤ 1048576) :
  Calls Tryz.prog 113 #[.agg #[va, vk], .int .i64 now, .agg #[.int .i64 x.kind, .int .i64 x.src, .int .i64 x.dst, v0, .int .i64 x.pi, .int .i64 x.hi, .int .i64 x.beta, .int .i64 x.rid, .int .i64 x.seq, v1]] w fun e w' => ∃ u0 u1, e = .returned (.tuple #[.agg #[.int .i64 (verCur t x).kind, .int .i64 (verCur t x).src, .int .i64 (verCur t x).dst, u0, .int .i64 (verCur t x).pi, .int .i64 (verCur t x).hi, .int .i64 (verCur t x).beta, .int .i64 (verCur t x).rid, .int .i64 (verCur t x).seq, u1], .int .i64 (chkCode t now x)]) ∧ Pkt.own (rng w.heap.size w'.heap.size) w' u0 u1 (verCur t x) ∧ Ext w w' := by
 obtain ⟨o, cap, rfl, hsm⟩ := r0.shape; obtain ⟨oy, cy, rfl, hsy⟩ := r1.shape; have hx0 := ext3 w (.cells #[va, vk] 56) (.cells #[.int .i64 x.kind, .int .i64 x.src, .int .i64 x.dst, .slice o x.path.parts.length cap, .int .i64 x.pi, .int .i64 x.hi, .int .i64 x.beta, .int .i64 x.rid, .int .i64 x.seq, .slice oy x.pay.length cy] 58) (.cells #[.int .i64 0, .int .i64 0, .int .i64 0, .slice none 0 0, .int .i64 0, .int .i64 0, .int .i64 0, .int .i64 0, .int .i64 0, .slice none 0 0] 58); have HB0 := Lib.hid (al3 w (.cells #[va, vk] 56) (.cells #[.int .i64 x.kind, .int .i64 x.src, .int .i64 x.dst, .slice o x.path.parts.length cap, .int .i64 x.pi, .int .i64 x.hi, .int .i64 x.beta, .int .i64 x.rid, .int .i64 x.seq, .slice oy x.pay.length cy] 58) (.cells #[.int .i64 0, .int .i64 0, .int .i64 0, .slice none 0 0, .int .i64 0, .int .i64 0, .int .i64 0, .int .i64 0, .int .i64 0, .slice none 0 0] 58))
 go_enter Tryz.func113, Tryz.ntmps113
 have cf1 := blk2 HB0.out.1; have cf2 := blk10 HB0.out.2.1; have cf3 := blk10 HB0.out.2.2
 go_wp2_with fail
 refine (s_VerifyCurrentHop t _ _ x _ _ _ (ha.ext hx0) (hk.ext hx0) (r0.ext hx0) (r1.ext hx0) hl).mono ?_; rintro e w1 ⟨u0, u1, rfl, oo, hz1⟩; have HZI := Lib.hid (curIn_ver t x now); generalize hz : verCur t x = z at *; have HZ := Lib.hid hz; clear hz; obtain ⟨o1, c1, rfl, _⟩ := (Pkt.own_rd0 oo).shape; obtain ⟨o2, c2, rfl, _⟩ := (Pkt.own_rd1 oo).shape; have hs1 : w.heap.size + 1 + 1 + 1 ≤ w1.heap.size := by simpa using hz1.size
 have OO := Lib.hid oo; clear oo
 try clear cf1
 try clear cf2
 try clear cf3
 have cf4 := blk2 (Ext.block hz1 HB0.out.1); have cf5 := blk10 (Ext.block hz1 HB0.out.2.1); have cf6 := blk10 (Ext.block hz1 HB0.out.2.2); have hx1 : Ext w1 (w1.alloc (.cells #[.int .i64 z.kind, .int .i64 z.src, .int .i64 z.dst, (.slice o1 z.path.parts.length c1), .int .i64 z.pi, .int .i64 z.hi, .int .i64 z.beta, .int .i64 z.rid, .int .i64 z.seq, (.slice o2 z.pay.length c2)] 58)) := (Ext.refl _).alloc _; have HB1 := Lib.hid (blk_new w1 (.cells #[.int .i64 z.kind, .int .i64 z.src, .int .i64 z.dst, (.slice o1 z.path.parts.length c1), .int .i64 z.pi, .int .i64 z.hi, .int .i64 z.beta, .int .i64 z.rid, .int .i64 z.seq, (.slice o2 z.pay.length c2)] 58))
 cases bo : curOk t x
 ·
  have HC := Lib.hid (code_4 (now := now) bo); have hsz := hx1.size; have hso : w1.heap.size < (w1.alloc (.cells #[.int .i64 z.kind, .int .i64 z.src, .int .i64 z.dst, (.slice o1 z.path.parts.length c1), .int .i64 z.pi, .int .i64 z.hi, .int .i64 z.beta, .int .i64 z.rid, .int .i64 z.seq, (.slice o2 z.pay.length c2)] 58)).heap.size := blk_lt (Ext.block (Ext.refl _) HB1.out); have hR := Ext.block (hz1.t hx1) HB0.out.2.2; have hO := HB1.out; obtain ⟨wc, hwc, hrc, hcc, hsc⟩ := pk_set hR (.int .i64 z.kind) (.int .i64 z.src) (.int .i64 z.dst) ((.slice o1 z.path.parts.length c1)) (.int .i64 z.pi) (.int .i64 z.hi) (.int .i64 z.beta) (.int .i64 z.rid) (.int .i64 z.seq) ((.slice o2 z.pay.length c2)); have HOW := Lib.hid (Pkt.own_kept (Pkt.own_ext OO.out hx1) hcc (fun b hb e => by have h1 := hb.1; have h2 := hb.2; simp at h1; omega)); have HXX := Lib.hid (((hx0.t hz1).t hx1).chg1 hcc (by omega)); have HWC := Lib.hid hwc; have HRC := Lib.hid hrc; have hsz2 : (w1.alloc (.cells #[.int .i64 z.kind, .int .i64 z.src, .int .i64 z.dst, (.slice o1 z.path.parts.length c1), .int .i64 z.pi, .int .i64 z.hi, .int .i64 z.beta, .int .i64 z.rid, .int .i64 z.seq, (.slice o2 z.pay.length c2)] 58)).heap.size = wc.heap.size := by rw [hsc]
  have hRF := fun o => fr_of hR o
  have gr0 := hRF 0; have gr1 := hRF 1; have gr2 := hRF 2; have gr3 := hRF 3; have gr4 := hRF 4; have gr5 := hRF 5; have gr6 := hRF 6; have gr7 := hRF 7; have gr8 := hRF 8; have gr9 := hRF 9; clear hRF hR hO  hwc hrc hcc hsc; have cf7 := blk2 (Ext.block (hz1.t hx1) HB0.out.1); have cf8 := blk10 (Ext.block (hz1.t hx1) HB0.out.2.1); have cf9 := blk10 (Ext.block (hz1.t hx1) HB0.out.2.2); have cf10 := blk10 HB1.out
  go_wp2_with fail
  rw [← HWC.out]; clear gr0 gr1 gr2 gr3 gr4 gr5 gr6 gr7 gr8 gr9 cf7 cf8 cf9 cf10; have cc := blk10 HRC.out; refine bodyPost_ret (v := .tuple #[.agg #[.int .i64 z.kind, .int .i64 z.src, .int .i64 z.dst, (.slice o1 z.path.parts.length c1), .int .i64 z.pi, .int .i64 z.hi, .int .i64 z.beta, .int .i64 z.rid, .int .i64 z.seq, (.slice o2 z.pay.length c2)], .int .i64 4]) (by simp [results, Tryz.results113, go_sem, cc]) rfl ?_; rw [HZ.out, HC.out]; exact ⟨_, _, rfl, Pkt.own_mono HOW.out (fun b hb => ⟨by have h1 := hb.1; simp at h1; omega, by have h2 := hb.2; omega⟩), HXX.out⟩
 ·
  have cf11 := blk2 (Ext.block (hz1.t hx1) HB0.out.1); have cf12 := blk10 (Ext.block (hz1.t hx1) HB0.out.2.1); have cf13 := blk10 (Ext.block (hz1.t hx1) HB0.out.2.2); have cf14 := blk10 HB1.out
  go_wp2_with fail
  refine (s_CurrentHopValid x _ _ now _ (r0.ext ((hx0.t hz1).t hx1))).mono ?_; rintro e w2 ⟨rfl, hz2⟩
  cases bi : curIn x now
  ·
   have HC := Lib.hid (code_5 bo bi); have hsz := (hx1.t hz2).size; have hso : w1.heap.size < w2.heap.size := blk_lt (Ext.block hz2 HB1.out); have hR := Ext.block ((hz1.t hx1).t hz2) HB0.out.2.2; have hO := Ext.block hz2 HB1.out; obtain ⟨wc, hwc, hrc, hcc, hsc⟩ := pk_set hR (.int .i64 z.kind) (.int .i64 z.src) (.int .i64 z.dst) ((.slice o1 z.path.parts.length c1)) (.int .i64 z.pi) (.int .i64 z.hi) (.int .i64 z.beta) (.int .i64 z.rid) (.int .i64 z.seq) ((.slice o2 z.pay.length c2)); have HOW := Lib.hid (Pkt.own_kept (Pkt.own_ext OO.out (hx1.t hz2)) hcc (fun b hb e => by have h1 := hb.1; have h2 := hb.2; simp at h1; omega)); have HXX := Lib.hid ((((hx0.t hz1).t hx1).t hz2).chg1 hcc (by omega)); have HWC := Lib.hid hwc; have HRC := Lib.hid hrc; have hsz2 : w2.heap.size = wc.heap.size := by rw [hsc]
   have hRF := fun o => fr_of hR o
   have gr0 := hRF 0; have gr1 := hRF 1; have gr2 := hRF 2; have gr3 := hRF 3; have gr4 := hRF 4; have gr5 := hRF 5; have gr6 := hRF 6; have gr7 := hRF 7; have gr8 := hRF 8; have gr9 := hRF 9; clear hRF hR hO  hwc hrc hcc hsc
   try clear cf11
   try clear cf12
   try clear cf13
   try clear cf14
   have cf15 := blk2 (Ext.block ((hz1.t hx1).t hz2) HB0.out.1); have cf16 := blk10 (Ext.block ((hz1.t hx1).t hz2) HB0.out.2.1); have cf17 := blk10 (Ext.block ((hz1.t hx1).t hz2) HB0.out.2.2); have cf18 := blk10 (Ext.block hz2 HB1.out)
   go_wp2_with fail
   rw [← HWC.out]; clear gr0 gr1 gr2 gr3 gr4 gr5 gr6 gr7 gr8 gr9 cf15 cf16 cf17 cf18; have cc := blk10 HRC.out; refine bodyPost_ret (v := .tuple #[.agg #[.int .i64 z.kind, .int .i64 z.src, .int .i64 z.dst, (.slice o1 z.path.parts.length c1), .int .i64 z.pi, .int .i64 z.hi, .int .i64 z.beta, .int .i64 z.rid, .int .i64 z.seq, (.slice o2 z.pay.length c2)], .int .i64 5]) (by simp [results, Tryz.results113, go_sem, cc]) rfl ?_; rw [HZ.out, HC.out]; exact ⟨_, _, rfl, Pkt.own_mono HOW.out (fun b hb => ⟨by have h1 := hb.1; simp at h1; omega, by have h2 := hb.2; omega⟩), HXX.out⟩
  ·
   have HC := Lib.hid (code_0 bo bi); have hsz := (hx1.t hz2).size; have hso : w1.heap.size < w2.heap.size := blk_lt (Ext.block hz2 HB1.out); have hR := Ext.block ((hz1.t hx1).t hz2) HB0.out.2.2; have hO := Ext.block hz2 HB1.out; obtain ⟨wc, hwc, hrc, hcc, hsc⟩ := pk_set hR (.int .i64 z.kind) (.int .i64 z.src) (.int .i64 z.dst) ((.slice o1 z.path.parts.length c1)) (.int .i64 z.pi) (.int .i64 z.hi) (.int .i64 z.beta) (.int .i64 z.rid) (.int .i64 z.seq) ((.slice o2 z.pay.length c2)); have HOW := Lib.hid (Pkt.own_kept (Pkt.own_ext OO.out (hx1.t hz2)) hcc (fun b hb e => by have h1 := hb.1; have h2 := hb.2; simp at h1; omega)); have HXX := Lib.hid ((((hx0.t hz1).t hx1).t hz2).chg1 hcc (by omega)); have HWC := Lib.hid hwc; have HRC := Lib.hid hrc; have hsz2 : w2.heap.size = wc.heap.size := by rw [hsc]
   have hRF := fun o => fr_of hR o
   have gr0 := hRF 0; have gr1 := hRF 1; have gr2 := hRF 2; have gr3 := hRF 3; have gr4 := hRF 4; have gr5 := hRF 5; have gr6 := hRF 6; have gr7 := hRF 7; have gr8 := hRF 8; have gr9 := hRF 9; clear hRF hR hO  hwc hrc hcc hsc
   try clear cf11
   try clear cf12
   try clear cf13
   try clear cf14
   have cf19 := blk2 (Ext.block ((hz1.t hx1).t hz2) HB0.out.1); have cf20 := blk10 (Ext.block ((hz1.t hx1).t hz2) HB0.out.2.1); have cf21 := blk10 (Ext.block ((hz1.t hx1).t hz2) HB0.out.2.2); have cf22 := blk10 (Ext.block hz2 HB1.out)
   go_wp2_with fail
   rw [← HWC.out]; clear gr0 gr1 gr2 gr3 gr4 gr5 gr6 gr7 gr8 gr9 cf19 cf20 cf21 cf22; have cc := blk10 HRC.out; refine bodyPost_ret (v := .tuple #[.agg #[.int .i64 z.kind, .int .i64 z.src, .int .i64 z.dst, (.slice o1 z.path.parts.length c1), .int .i64 z.pi, .int .i64 z.hi, .int .i64 z.beta, .int .i64 z.rid, .int .i64 z.seq, (.slice o2 z.pay.length c2)], .int .i64 0]) (by simp [results, Tryz.results113, go_sem, cc]) rfl ?_; rw [HZ.out, HC.out]; exact ⟨_, _, rfl, Pkt.own_mono HOW.out (fun b hb => ⟨by have h1 := hb.1; simp at h1; omega, by have h2 := hb.2; omega⟩), HXX.out⟩
set_option maxRecDepth 100000 in
set_option maxHeartbeats 16000000 in
theorem i_decide1 (code : Int) (x : Pkt) (v0 v1 : Value) (g : Nat) (w : World) (hg : w.heap[g]? = some (.cells #[.int .i64 x.kind, .int .i64 x.src, .int .i64 x.dst, v0, .int .i64 x.pi, .int .i64 x.hi, .int .i64 x.beta, .int .i64 x.rid, .int .i64 x.seq, v1] 58)) (r0 : RdS Part.rep w v0 x.path.parts) (r1 : RdS Rep.byte w v1 x.pay) (hl : x.size ≤ 1048576) :
  Calls Tryz.prog 177 #[.int .i64 code, .pointer (some ⟨g, 0, none⟩)] w fun e w' => ∃ u0 u1, e = .returned (.agg #[.int .i64 code, .int .i64 0, .int .i64 x.kind, .int .i64 x.src, .int .i64 x.dst, u0, .int .i64 x.pi, .int .i64 x.hi, .int .i64 x.beta, .int .i64 x.rid, .int .i64 x.seq, u1]) ∧ Pkt.own (rng w.heap.size w'.heap.size) w' u0 u1 x ∧ Ext w w' := by
 have HG := Lib.hid hg; clear hg; have hx0 : Ext w (w.alloc (.cells #[.int .i64 0, .int .i64 0, .int .i64 0, .int .i64 0, .int .i64 0, .slice none 0 0, .int .i64 0, .int .i64 0, .int .i64 0, .int .i64 0, .int .i64 0, .slice none 0 0] 62)) := (Ext.refl _).alloc _; have HB0 := Lib.hid (blk_new w (.cells #[.int .i64 0, .int .i64 0, .int .i64 0, .int .i64 0, .int .i64 0, .slice none 0 0, .int .i64 0, .int .i64 0, .int .i64 0, .int .i64 0, .int .i64 0, .slice none 0 0] 62))
 go_enter Tryz.func177, Tryz.ntmps177
 have cf1 := blk12 HB0.out; have cf2 := blk10 (Ext.block hx0 HG.out)
 go_wp2_with fail
 refine (i_copyPacket x _ _ _ (r0.ext hx0) (r1.ext hx0) hl).mono ?_; rintro e w1 ⟨u0, u1, rfl, oo, hz1⟩; obtain ⟨o1, c1, rfl, _⟩ := (Pkt.own_rd0 oo).shape; obtain ⟨o2, c2, rfl, _⟩ := (Pkt.own_rd1 oo).shape; have hs1 : w.heap.size + 1 ≤ w1.heap.size := by simpa using hz1.size
 have hR := Ext.block hz1 HB0.out; obtain ⟨wc, hwc, hrc, hcc, hsc⟩ := vd_set hR (.int .i64 code) (.int .i64 0) (.int .i64 x.kind) (.int .i64 x.src) (.int .i64 x.dst) ((.slice o1 x.path.parts.length c1)) (.int .i64 x.pi) (.int .i64 x.hi) (.int .i64 x.beta) (.int .i64 x.rid) (.int .i64 x.seq) ((.slice o2 x.pay.length c2)); have HOW := Lib.hid (Pkt.own_kept oo hcc (fun b hb e => by have h1 := hb.1; have h2 := hb.2; simp at h1; omega)); have HXX := Lib.hid ((hx0.t hz1).chg1 hcc (by omega)); have HWC := Lib.hid hwc; have HRC := Lib.hid hrc; have hsz2 : w1.heap.size = wc.heap.size := by rw [hsc]
 have hRF := fun o => fr_of hR o
 have gr0 := hRF 0; have gr1 := hRF 1; have gr2 := hRF 2; have gr3 := hRF 3; have gr4 := hRF 4; have gr5 := hRF 5; have gr6 := hRF 6; have gr7 := hRF 7; have gr8 := hRF 8; have gr9 := hRF 9; have gr10 := hRF 10; have gr11 := hRF 11; clear hRF hR  hwc hrc hcc hsc; clear oo
 try clear cf1
 try clear cf2
 have cf3 := blk12 (Ext.block hz1 HB0.out); have cf4 := blk10 (Ext.block (hx0.t hz1) HG.out)
 go_wp2_with fail
 rw [← HWC.out]; clear gr0 gr1 gr2 gr3 gr4 gr5 gr6 gr7 gr8 gr9 gr10 gr11 cf3 cf4; have cc := blk12 HRC.out; refine bodyPost_ret (v := .agg #[.int .i64 code, .int .i64 0, .int .i64 x.kind, .int .i64 x.src, .int .i64 x.dst, (.slice o1 x.path.parts.length c1), .int .i64 x.pi, .int .i64 x.hi, .int .i64 x.beta, .int .i64 x.rid, .int .i64 x.seq, (.slice o2 x.pay.length c2)]) (by simp [results, Tryz.results177, go_sem, cc]) rfl ?_; exact ⟨_, _, rfl, Pkt.own_mono HOW.out (fun b hb => ⟨by have h1 := hb.1; simp at h1; omega, by have h2 := hb.2; omega⟩), HXX.out⟩
set_option maxRecDepth 100000 in
set_option maxHeartbeats 16000000 in
theorem s_l28No (code : Int) (x : Pkt) (v0 v1 : Value) (w : World) (r0 : RdS Part.rep w v0 x.path.parts) (r1 : RdS Rep.byte w v1 x.pay) (hl : x.size ≤ 1048576) :
  Calls Tryz.prog 111 #[.int .i64 code, .agg #[.int .i64 x.kind, .int .i64 x.src, .int .i64 x.dst, v0, .int .i64 x.pi, .int .i64 x.hi, .int .i64 x.beta, .int .i64 x.rid, .int .i64 x.seq, v1]] w fun e w' => ∃ u0 u1, e = .returned (.agg #[.int .i64 code, .int .i64 0, .int .i64 x.kind, .int .i64 x.src, .int .i64 x.dst, u0, .int .i64 x.pi, .int .i64 x.hi, .int .i64 x.beta, .int .i64 x.rid, .int .i64 x.seq, u1]) ∧ Pkt.own (rng w.heap.size w'.heap.size) w' u0 u1 x ∧ Ext w w' := by
 have hx0 := ext2 w (.cells #[.int .i64 x.kind, .int .i64 x.src, .int .i64 x.dst, v0, .int .i64 x.pi, .int .i64 x.hi, .int .i64 x.beta, .int .i64 x.rid, .int .i64 x.seq, v1] 58) (.cells #[.int .i64 0, .int .i64 0, .int .i64 0, .int .i64 0, .int .i64 0, .slice none 0 0, .int .i64 0, .int .i64 0, .int .i64 0, .int .i64 0, .int .i64 0, .slice none 0 0] 62); have HB0 := Lib.hid (al2 w (.cells #[.int .i64 x.kind, .int .i64 x.src, .int .i64 x.dst, v0, .int .i64 x.pi, .int .i64 x.hi, .int .i64 x.beta, .int .i64 x.rid, .int .i64 x.seq, v1] 58) (.cells #[.int .i64 0, .int .i64 0, .int .i64 0, .int .i64 0, .int .i64 0, .slice none 0 0, .int .i64 0, .int .i64 0, .int .i64 0, .int .i64 0, .int .i64 0, .slice none 0 0] 62))
 go_enter Tryz.func111, Tryz.ntmps111
 have cf1 := blk10 HB0.out.1; have cf2 := blk12 HB0.out.2
 go_wp2_with fail
 refine (s_l26Copy x _ _ _ (r0.ext hx0) (r1.ext hx0) hl).mono ?_; rintro e w1 ⟨u0, u1, rfl, oo, hz1⟩; obtain ⟨o1, c1, rfl, _⟩ := (Pkt.own_rd0 oo).shape; obtain ⟨o2, c2, rfl, _⟩ := (Pkt.own_rd1 oo).shape; have hs1 : w.heap.size + 1 + 1 ≤ w1.heap.size := by simpa using hz1.size
 have hR := Ext.block hz1 HB0.out.2; obtain ⟨wc, hwc, hrc, hcc, hsc⟩ := vd_set hR (.int .i64 code) (.int .i64 0) (.int .i64 x.kind) (.int .i64 x.src) (.int .i64 x.dst) ((.slice o1 x.path.parts.length c1)) (.int .i64 x.pi) (.int .i64 x.hi) (.int .i64 x.beta) (.int .i64 x.rid) (.int .i64 x.seq) ((.slice o2 x.pay.length c2)); have HOW := Lib.hid (Pkt.own_kept oo hcc (fun b hb e => by have h1 := hb.1; have h2 := hb.2; simp at h1; omega)); have HXX := Lib.hid ((hx0.t hz1).chg1 hcc (by omega)); have HWC := Lib.hid hwc; have HRC := Lib.hid hrc; have hsz2 : w1.heap.size = wc.heap.size := by rw [hsc]
 have hRF := fun o => fr_of hR o
 have gr0 := hRF 0; have gr1 := hRF 1; have gr2 := hRF 2; have gr3 := hRF 3; have gr4 := hRF 4; have gr5 := hRF 5; have gr6 := hRF 6; have gr7 := hRF 7; have gr8 := hRF 8; have gr9 := hRF 9; have gr10 := hRF 10; have gr11 := hRF 11; clear hRF hR  hwc hrc hcc hsc; clear oo
 try clear cf1
 try clear cf2
 have cf3 := blk10 (Ext.block hz1 HB0.out.1); have cf4 := blk12 (Ext.block hz1 HB0.out.2)
 go_wp2_with fail
 rw [← HWC.out]; clear gr0 gr1 gr2 gr3 gr4 gr5 gr6 gr7 gr8 gr9 gr10 gr11 cf3 cf4; have cc := blk12 HRC.out; refine bodyPost_ret (v := .agg #[.int .i64 code, .int .i64 0, .int .i64 x.kind, .int .i64 x.src, .int .i64 x.dst, (.slice o1 x.path.parts.length c1), .int .i64 x.pi, .int .i64 x.hi, .int .i64 x.beta, .int .i64 x.rid, .int .i64 x.seq, (.slice o2 x.pay.length c2)]) (by simp [results, Tryz.results111, go_sem, cc]) rfl ?_; exact ⟨_, _, rfl, Pkt.own_mono HOW.out (fun b hb => ⟨by have h1 := hb.1; simp at h1; omega, by have h2 := hb.2; omega⟩), HXX.out⟩
end
end Go.Proofs.YtcpfmhgfaliemaaGreat
