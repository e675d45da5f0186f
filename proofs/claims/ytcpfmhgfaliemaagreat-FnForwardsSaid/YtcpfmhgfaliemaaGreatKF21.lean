/- What these laws need: FnForwards: Contracts of going on to the next hop, of its time, and of the check of a hop, program and reference. -/
import Derived.Test.YtcpfmhgfaliemaaGreatKF20
namespace Go.Proofs.YtcpfmhgfaliemaaGreat
section
open Go.ChangeShapes Go.WideShapes Go.ChangeAt Go.RowKit Go.Deep
theorem adv_1 {x : Pkt} (h : curAs x < 0) : advance x = x := by unfold advance; rw [decide_eq_true h]; rfl
theorem adv_2 {x : Pkt} (h : atLast x = true) : advance x = x := by unfold advance; rw [h]; simp
theorem adv_3 {x : Pkt} (h : ¬ curAs x < 0) (h2 : atLast x = false) (h3 : lastOf x = true) : advance x = { x with pi := x.pi + 1, hi := 0, beta := (partAt x.path.parts (x.pi.toNat + 1)).beta } := by
 unfold advance; rw [decide_eq_false h, h2, h3]; rfl
theorem adv_4 {x : Pkt} (h : ¬ curAs x < 0) (h2 : atLast x = false) (h3 : lastOf x = false) : advance x = { x with hi := x.hi + 1 } := by
 unfold advance; rw [decide_eq_false h, h2, h3]; rfl
theorem adv_next {x : Pkt} (h : ¬ curAs x < 0) (h2 : atLast x = false) (h3 : lastOf x = true) : x.pi.toNat + 1 < x.path.parts.length := by
 obtain ⟨⟨p0, p1, p2⟩, _⟩ := hasHop_parts (curAs_has h); unfold atLast at h2; rw [decide_eq_true (show 0 ≤ curAs x by omega), h3] at h2; have h4 : (x.pi == (x.path.parts.length : Int) - 1) = false := by simpa using h2
 rw [beq_eq_false_iff_ne] at h4; omega
theorem lastOf_lt {x : Pkt} (h : ¬ curAs x < 0) : lastOf x = !(decide (x.hi < ((curPart x).hops.length : Int) - 1)) := by
 obtain ⟨_, q0, q1, q2⟩ := hasHop_parts (curAs_has h); unfold lastOf
 by_cases e : x.hi < ((curPart x).hops.length : Int) - 1
 ·
  rw [decide_eq_true e, beq_eq_false_iff_ne.2 (by omega)]; rfl
 ·
  rw [decide_eq_false e, beq_iff_eq.2 (by omega)]; rfl
theorem curIn_1 {x : Pkt} {now : Int} (h : curAs x < 0) : curIn x now = false := by unfold curIn; rw [decide_eq_false (by omega)]; rfl
theorem curIn_2 {x : Pkt} {now : Int} (h : ¬ curAs x < 0) : curIn x now = (decide ((curPart x).ts ≤ now) && decide (now ≤ (curHop x).exp)) := by unfold curIn; rw [decide_eq_true (show 0 ≤ curAs x by omega)]; rfl
set_option maxRecDepth 100000 in
set_option maxHeartbeats 16000000 in
theorem i_AdvanceHop (x : Pkt) (v0 v1 : Value) (w : World) (r0 : RdS Part.rep w v0 x.path.parts) (r1 : RdS Rep.byte w v1 x.pay) (hl : x.size ≤ 1048576) :
  Calls Tryz.prog 180 #[.agg #[.int .i64 x.kind, .int .i64 x.src, .int .i64 x.dst, v0, .int .i64 x.pi, .int .i64 x.hi, .int .i64 x.beta, .int .i64 x.rid, .int .i64 x.seq, v1]] w fun e w' => ∃ u0 u1, e = .returned (.agg #[.int .i64 (advance x).kind, .int .i64 (advance x).src, .int .i64 (advance x).dst, u0, .int .i64 (advance x).pi, .int .i64 (advance x).hi, .int .i64 (advance x).beta, .int .i64 (advance x).rid, .int .i64 (advance x).seq, u1]) ∧ Pkt.own (rng w.heap.size w'.heap.size) w' u0 u1 (advance x) ∧ Ext w w' := by
 obtain ⟨o, cap, rfl, hsm⟩ := r0.shape; have hx0 := ext2 w (.cells #[.int .i64 x.kind, .int .i64 x.src, .int .i64 x.dst, .slice o x.path.parts.length cap, .int .i64 x.pi, .int .i64 x.hi, .int .i64 x.beta, .int .i64 x.rid, .int .i64 x.seq, v1] 58) (.cells #[.int .i64 0, .int .i64 0, .int .i64 0, .slice none 0 0, .int .i64 0, .int .i64 0, .int .i64 0, .int .i64 0, .int .i64 0, .slice none 0 0] 58); have HB0 := Lib.hid (al2 w (.cells #[.int .i64 x.kind, .int .i64 x.src, .int .i64 x.dst, .slice o x.path.parts.length cap, .int .i64 x.pi, .int .i64 x.hi, .int .i64 x.beta, .int .i64 x.rid, .int .i64 x.seq, v1] 58) (.cells #[.int .i64 0, .int .i64 0, .int .i64 0, .slice none 0 0, .int .i64 0, .int .i64 0, .int .i64 0, .int .i64 0, .int .i64 0, .slice none 0 0] 58))
 go_enter Tryz.func180, Tryz.ntmps180
 have cf1 := blk10 HB0.out.1; have cf2 := blk10 HB0.out.2
 go_wp2_with fail
 refine (i_copyPacket x _ _ _ (r0.ext hx0) (r1.ext hx0) hl).mono ?_; rintro e w1 ⟨u0, u1, rfl, oo, hz1⟩; obtain ⟨o1, c1, rfl, _⟩ := (Pkt.own_rd0 oo).shape; obtain ⟨o2, c2, rfl, _⟩ := (Pkt.own_rd1 oo).shape; have hs1 : w.heap.size + 1 + 1 ≤ w1.heap.size := by simpa using hz1.size
 have OO := Lib.hid oo; clear oo
 try clear cf1
 try clear cf2
 have cf3 := blk10 (Ext.block hz1 HB0.out.1); have cf4 := blk10 (Ext.block hz1 HB0.out.2); have hx1 : Ext w1 (w1.alloc (.cells #[.int .i64 x.kind, .int .i64 x.src, .int .i64 x.dst, (.slice o1 x.path.parts.length c1), .int .i64 x.pi, .int .i64 x.hi, .int .i64 x.beta, .int .i64 x.rid, .int .i64 x.seq, (.slice o2 x.pay.length c2)] 58)) := (Ext.refl _).alloc _; have HB1 := Lib.hid (blk_new w1 (.cells #[.int .i64 x.kind, .int .i64 x.src, .int .i64 x.dst, (.slice o1 x.path.parts.length c1), .int .i64 x.pi, .int .i64 x.hi, .int .i64 x.beta, .int .i64 x.rid, .int .i64 x.seq, (.slice o2 x.pay.length c2)] 58)); have cf5 := blk10 (Ext.block (hz1.t hx1) HB0.out.1); have cf6 := blk10 (Ext.block (hz1.t hx1) HB0.out.2); have cf7 := blk10 HB1.out
 go_wp2_with fail
 refine (i_CurrentAS x _ _ _ (r0.ext ((hx0.t hz1).t hx1))).mono ?_; rintro e w2 ⟨rfl, hz2⟩
 by_cases b0 : curAs x < 0
 ·
  have hsz := (hx1.t hz2).size; have hso : w1.heap.size < w2.heap.size := blk_lt (Ext.block hz2 HB1.out); have hR := Ext.block ((hz1.t hx1).t hz2) HB0.out.2; have hO := Ext.block hz2 HB1.out; obtain ⟨wc, hwc, hrc, hcc, hsc⟩ := pk_set hR (.int .i64 x.kind) (.int .i64 x.src) (.int .i64 x.dst) ((.slice o1 x.path.parts.length c1)) (.int .i64 x.pi) (.int .i64 x.hi) (.int .i64 x.beta) (.int .i64 x.rid) (.int .i64 x.seq) ((.slice o2 x.pay.length c2)); have HOW := Lib.hid (Pkt.own_kept (Pkt.own_ext OO.out (hx1.t hz2)) hcc (fun b hb e => by have h1 := hb.1; have h2 := hb.2; simp at h1; omega)); have HXX := Lib.hid ((((hx0.t hz1).t hx1).t hz2).chg1 hcc (by omega)); have HWC := Lib.hid hwc; have HRC := Lib.hid hrc; have hsz2 : w2.heap.size = wc.heap.size := by rw [hsc]
  have hRF := fun o => fr_of hR o
  have gr0 := hRF 0; have gr1 := hRF 1; have gr2 := hRF 2; have gr3 := hRF 3; have gr4 := hRF 4; have gr5 := hRF 5; have gr6 := hRF 6; have gr7 := hRF 7; have gr8 := hRF 8; have gr9 := hRF 9; clear hRF hR hO  hwc hrc hcc hsc
  try clear cf5
  try clear cf6
  try clear cf7
  have cf8 := blk10 (Ext.block ((hz1.t hx1).t hz2) HB0.out.1); have cf9 := blk10 (Ext.block ((hz1.t hx1).t hz2) HB0.out.2); have cf10 := blk10 (Ext.block hz2 HB1.out)
  go_wp2_with fail
  rw [← HWC.out]; clear gr0 gr1 gr2 gr3 gr4 gr5 gr6 gr7 gr8 gr9 cf8 cf9 cf10; have cc := blk10 HRC.out; refine bodyPost_ret (v := .agg #[.int .i64 x.kind, .int .i64 x.src, .int .i64 x.dst, (.slice o1 x.path.parts.length c1), .int .i64 x.pi, .int .i64 x.hi, .int .i64 x.beta, .int .i64 x.rid, .int .i64 x.seq, (.slice o2 x.pay.length c2)]) (by simp [results, Tryz.results180, go_sem, cc]) rfl ?_; rw [adv_1 (x := x) (by omega)]; exact ⟨_, _, rfl, Pkt.own_mono HOW.out (fun b hb => ⟨by have h1 := hb.1; simp at h1; omega, by have h2 := hb.2; omega⟩), HXX.out⟩
 ·
  try clear cf5
  try clear cf6
  try clear cf7
  have cf11 := blk10 (Ext.block ((hz1.t hx1).t hz2) HB0.out.1); have cf12 := blk10 (Ext.block ((hz1.t hx1).t hz2) HB0.out.2); have cf13 := blk10 (Ext.block hz2 HB1.out)
  go_wp2_with fail
  refine (i_AtLastHop x _ _ _ (r0.ext (((hx0.t hz1).t hx1).t hz2))).mono ?_; rintro e w3 ⟨rfl, hz3⟩
  cases b1 : atLast x
  ·
   obtain ⟨⟨p0, p1, p2⟩, q0, q1, q2⟩ := hasHop_parts (curAs_has (x := x) (by omega)); have hcp := curPart_at p2; obtain ⟨b, off, oh, ch, eo, hc, hr⟩ := Part.at (r0.ext ((((hx0.t hz1).t hx1).t hz2).t hz3)) x.pi.toNat p2; rw [← hcp] at hc hr; clear hcp; have hlh : (curPart x).hops.length ≤ 9223372036854775807 := by obtain ⟨_, _, _, h⟩ := hr.shape; exact h
   clear eo hc hr
   try clear cf11
   try clear cf12
   try clear cf13
   have cf14 := blk10 (Ext.block (((hz1.t hx1).t hz2).t hz3) HB0.out.1); have cf15 := blk10 (Ext.block (((hz1.t hx1).t hz2).t hz3) HB0.out.2); have cf16 := blk10 (Ext.block (hz2.t hz3) HB1.out)
   go_wp2_with fail
   refine (i_lastOfPart x _ _ _ (r0.ext ((((hx0.t hz1).t hx1).t hz2).t hz3)) p0 p2).mono ?_; rintro e w4 ⟨rfl, hz4⟩
   cases b2 : lastOf x
   ·
    have HV := Lib.hid (adv_4 (x := x) (by omega) b1 b2); have q3 : x.hi + 1 ≤ 9223372036854775807 := by have := hlh; omega
    have hsz := (((hx1.t hz2).t hz3).t hz4).size; have hso : w1.heap.size < w4.heap.size := blk_lt (Ext.block ((hz2.t hz3).t hz4) HB1.out); have hR := Ext.block ((((hz1.t hx1).t hz2).t hz3).t hz4) HB0.out.2; have hO := Ext.block ((hz2.t hz3).t hz4) HB1.out; obtain ⟨wq0, hwq0, hoq0, hcq0, hsq0⟩ := cell_set hO 5 (.int .i64 (x.hi + 1)); have hrq0 := hcq0.other hR (by omega); obtain ⟨wc, hwc, hrc, hcc, hsc⟩ := pk_set hrq0 (.int .i64 x.kind) (.int .i64 x.src) (.int .i64 x.dst) ((.slice o1 x.path.parts.length c1)) (.int .i64 x.pi) (.int .i64 (x.hi + 1)) (.int .i64 x.beta) (.int .i64 x.rid) (.int .i64 x.seq) ((.slice o2 x.pay.length c2)); have HOW := Lib.hid (Pkt.own_kept (Pkt.own_kept (Pkt.own_ext OO.out (((hx1.t hz2).t hz3).t hz4)) hcq0 (fun b hb e => by have h1 := hb.1; have h2 := hb.2; simp at h1; omega)) hcc (fun b hb e => by have h1 := hb.1; have h2 := hb.2; simp at h1; omega)); have hwc2 := hwc; rw [hwq0] at hwc2; have HXX := Lib.hid (((((((hx0.t hz1).t hx1).t hz2).t hz3).t hz4).chg1 hcq0 (by omega)).chg1 hcc (by omega)); have HWC := Lib.hid hwc2; have HRC := Lib.hid hrc; have hsz2 : w4.heap.size = wc.heap.size := by rw [hsc, hsq0]
    have hRF := fun o => fr_of hR o
    have gr0 := hRF 0; have gr1 := hRF 1; have gr2 := hRF 2; have gr3 := hRF 3; have gr4 := hRF 4; have gr5 := hRF 5; have gr6 := hRF 6; have gr7 := hRF 7; have gr8 := hRF 8; have gr9 := hRF 9; have hOF := fun o => fr_of hO o
    have go5 := hOF 5; clear hOF; clear hRF hR hO hwq0 hoq0 hcq0 hrq0 hwc2 hwc hrc hcc hsc hsq0
    try clear cf14
    try clear cf15
    try clear cf16
    have cf17 := blk10 (Ext.block ((((hz1.t hx1).t hz2).t hz3).t hz4) HB0.out.1); have cf18 := blk10 (Ext.block ((((hz1.t hx1).t hz2).t hz3).t hz4) HB0.out.2); have cf19 := blk10 (Ext.block ((hz2.t hz3).t hz4) HB1.out)
    go_wp2_with fail
    rw [← HWC.out]; clear gr0 gr1 gr2 gr3 gr4 gr5 gr6 gr7 gr8 gr9 go5 cf17 cf18 cf19; have cc := blk10 HRC.out; refine bodyPost_ret (v := .agg #[.int .i64 x.kind, .int .i64 x.src, .int .i64 x.dst, (.slice o1 x.path.parts.length c1), .int .i64 x.pi, .int .i64 (x.hi + 1), .int .i64 x.beta, .int .i64 x.rid, .int .i64 x.seq, (.slice o2 x.pay.length c2)]) (by simp [results, Tryz.results180, go_sem, cc]) rfl ?_; rw [HV.out]; exact ⟨_, _, rfl, Pkt.own_mono HOW.out (fun b hb => ⟨by have h1 := hb.1; simp at h1; omega, by have h2 := hb.2; omega⟩), HXX.out⟩
   ·
    have p3 := adv_next (x := x) (by omega) b1 b2; have p4 : (x.pi + 1).toNat < x.path.parts.length := by omega
    have HAT := Lib.hid (show (partAt x.path.parts (x.pi.toNat + 1)).beta = x.path.parts[(x.pi + 1).toNat].beta by rw [partAt_at p3]; simp only [show (x.pi + 1).toNat = x.pi.toNat + 1 by omega]); have HV := Lib.hid ((adv_3 (x := x) (by omega) b1 b2).trans (by rw [HAT.out])); have p5 : x.pi + 1 < (x.path.parts.length : Int) := by omega
    have p6 : 0 ≤ x.pi + 1 := by omega
    obtain ⟨bb, ff, oh2, ch2, e2, hd0, _⟩ := Part.at r0 (x.pi + 1).toNat p4
    cases e2
    have hbo : bb < w.heap.size := World.block_lt_of_cell? w ⟨bb, ff + (x.pi + 1).toNat * 4, none⟩ hd0.1; have hbn1 : bb ≠ w1.heap.size := by omega
    have hbn2 : w.heap.size ≠ w1.heap.size := by omega
    have hsz := (((hx1.t hz2).t hz3).t hz4).size; have hso : w1.heap.size < w4.heap.size := blk_lt (Ext.block ((hz2.t hz3).t hz4) HB1.out); have hR := Ext.block ((((hz1.t hx1).t hz2).t hz3).t hz4) HB0.out.2; have hO := Ext.block ((hz2.t hz3).t hz4) HB1.out; obtain ⟨wq0, hwq0, hoq0, hcq0, hsq0⟩ := cell_set hO 4 (.int .i64 (x.pi + 1)); have hrq0 := hcq0.other hR (by omega); obtain ⟨wq1, hwq1, hoq1, hcq1, hsq1⟩ := cell_set hoq0 5 (.int .i64 0); have hrq1 := hcq1.other hrq0 (by omega); obtain ⟨wq2, hwq2, hoq2, hcq2, hsq2⟩ := cell_set hoq1 6 (.int .i64 x.path.parts[(x.pi + 1).toNat].beta); have hrq2 := hcq2.other hrq1 (by omega); obtain ⟨wc, hwc, hrc, hcc, hsc⟩ := pk_set hrq2 (.int .i64 x.kind) (.int .i64 x.src) (.int .i64 x.dst) ((.slice o1 x.path.parts.length c1)) (.int .i64 (x.pi + 1)) (.int .i64 (0)) (.int .i64 (x.path.parts[(x.pi + 1).toNat].beta)) (.int .i64 x.rid) (.int .i64 x.seq) ((.slice o2 x.pay.length c2)); have HOW := Lib.hid (Pkt.own_kept (Pkt.own_kept (Pkt.own_kept (Pkt.own_kept (Pkt.own_ext OO.out (((hx1.t hz2).t hz3).t hz4)) hcq0 (fun b hb e => by have h1 := hb.1; have h2 := hb.2; simp at h1; omega)) hcq1 (fun b hb e => by have h1 := hb.1; have h2 := hb.2; simp at h1; omega)) hcq2 (fun b hb e => by have h1 := hb.1; have h2 := hb.2; simp at h1; omega)) hcc (fun b hb e => by have h1 := hb.1; have h2 := hb.2; simp at h1; omega)); have hwc2 := hwc; rw [hwq2, hwq1, hwq0] at hwc2
    have HXX := Lib.hid (((((((((hx0.t hz1).t hx1).t hz2).t hz3).t hz4).chg1 hcq0 (by omega)).chg1 hcq1 (by omega)).chg1 hcq2 (by omega)).chg1 hcc (by omega)); have HWC := Lib.hid hwc2; have HRC := Lib.hid hrc; have hsz2 : w4.heap.size = wc.heap.size := by rw [hsc, hsq2, hsq1, hsq0]
    have hRF := fun o => fr_of hR o
    have gr0 := hRF 0; have gr1 := hRF 1; have gr2 := hRF 2; have gr3 := hRF 3; have gr4 := hRF 4; have gr5 := hRF 5; have gr6 := hRF 6; have gr7 := hRF 7; have gr8 := hRF 8; have gr9 := hRF 9; have hOF := fun o => fr_of hO o
    have go4 := hOF 4; have go5 := hOF 5; have go6 := hOF 6; clear hOF; clear hRF hR hO hwq0 hoq0 hcq0 hrq0 hwq1 hoq1 hcq1 hrq1 hwq2 hoq2 hcq2 hrq2 hwc2 hwc hrc hcc hsc hsq0 hsq1 hsq2
    try clear cf14
    try clear cf15
    try clear cf16
    have cf20 := blk10 (Ext.block ((((hz1.t hx1).t hz2).t hz3).t hz4) HB0.out.1); have cf21 := blk10 (Ext.block ((((hz1.t hx1).t hz2).t hz3).t hz4) HB0.out.2); have cf22 := blk10 (Ext.block ((hz2.t hz3).t hz4) HB1.out); have cf23 := Part.at_ext (((((hx0.t hz1).t hx1).t hz2).t hz3).t hz4) hd0
    go_wp2_with fail
    rw [← HWC.out]; clear gr0 gr1 gr2 gr3 gr4 gr5 gr6 gr7 gr8 gr9 go4 go5 go6 cf20 cf21 cf22 cf23; have cc := blk10 HRC.out; refine bodyPost_ret (v := .agg #[.int .i64 x.kind, .int .i64 x.src, .int .i64 x.dst, (.slice o1 x.path.parts.length c1), .int .i64 (x.pi + 1), .int .i64 (0), .int .i64 (x.path.parts[(x.pi + 1).toNat].beta), .int .i64 x.rid, .int .i64 x.seq, (.slice o2 x.pay.length c2)]) (by simp [results, Tryz.results180, go_sem, cc]) rfl ?_; rw [HV.out]; exact ⟨_, _, rfl, Pkt.own_mono HOW.out (fun b hb => ⟨by have h1 := hb.1; simp at h1; omega, by have h2 := hb.2; omega⟩), HXX.out⟩
  ·
   have hsz := ((hx1.t hz2).t hz3).size; have hso : w1.heap.size < w3.heap.size := blk_lt (Ext.block (hz2.t hz3) HB1.out); have hR := Ext.block (((hz1.t hx1).t hz2).t hz3) HB0.out.2; have hO := Ext.block (hz2.t hz3) HB1.out; obtain ⟨wc, hwc, hrc, hcc, hsc⟩ := pk_set hR (.int .i64 x.kind) (.int .i64 x.src) (.int .i64 x.dst) ((.slice o1 x.path.parts.length c1)) (.int .i64 x.pi) (.int .i64 x.hi) (.int .i64 x.beta) (.int .i64 x.rid) (.int .i64 x.seq) ((.slice o2 x.pay.length c2)); have HOW := Lib.hid (Pkt.own_kept (Pkt.own_ext OO.out ((hx1.t hz2).t hz3)) hcc (fun b hb e => by have h1 := hb.1; have h2 := hb.2; simp at h1; omega)); have HXX := Lib.hid (((((hx0.t hz1).t hx1).t hz2).t hz3).chg1 hcc (by omega)); have HWC := Lib.hid hwc; have HRC := Lib.hid hrc; have hsz2 : w3.heap.size = wc.heap.size := by rw [hsc]
   have hRF := fun o => fr_of hR o
   have gr0 := hRF 0; have gr1 := hRF 1; have gr2 := hRF 2; have gr3 := hRF 3; have gr4 := hRF 4; have gr5 := hRF 5; have gr6 := hRF 6; have gr7 := hRF 7; have gr8 := hRF 8; have gr9 := hRF 9; clear hRF hR hO  hwc hrc hcc hsc
   try clear cf11
   try clear cf12
   try clear cf13
   have cf24 := blk10 (Ext.block (((hz1.t hx1).t hz2).t hz3) HB0.out.1); have cf25 := blk10 (Ext.block (((hz1.t hx1).t hz2).t hz3) HB0.out.2); have cf26 := blk10 (Ext.block (hz2.t hz3) HB1.out)
   go_wp2_with fail
   rw [← HWC.out]; clear gr0 gr1 gr2 gr3 gr4 gr5 gr6 gr7 gr8 gr9 cf24 cf25 cf26; have cc := blk10 HRC.out; refine bodyPost_ret (v := .agg #[.int .i64 x.kind, .int .i64 x.src, .int .i64 x.dst, (.slice o1 x.path.parts.length c1), .int .i64 x.pi, .int .i64 x.hi, .int .i64 x.beta, .int .i64 x.rid, .int .i64 x.seq, (.slice o2 x.pay.length c2)]) (by simp [results, Tryz.results180, go_sem, cc]) rfl ?_; rw [adv_2 b1]; exact ⟨_, _, rfl, Pkt.own_mono HOW.out (fun b hb => ⟨by have h1 := hb.1; simp at h1; omega, by have h2 := hb.2; omega⟩), HXX.out⟩
set_option maxRecDepth 100000 in
set_option maxHeartbeats 16000000 in
theorem s_AdvanceHop (x : Pkt) (v0 v1 : Value) (w : World) (r0 : RdS Part.rep w v0 x.path.parts) (r1 : RdS Rep.byte w v1 x.pay) (hl : x.size ≤ 1048576) :
  Calls Tryz.prog 114 #[.agg #[.int .i64 x.kind, .int .i64 x.src, .int .i64 x.dst, v0, .int .i64 x.pi, .int .i64 x.hi, .int .i64 x.beta, .int .i64 x.rid, .int .i64 x.seq, v1]] w fun e w' => ∃ u0 u1, e = .returned (.agg #[.int .i64 (advance x).kind, .int .i64 (advance x).src, .int .i64 (advance x).dst, u0, .int .i64 (advance x).pi, .int .i64 (advance x).hi, .int .i64 (advance x).beta, .int .i64 (advance x).rid, .int .i64 (advance x).seq, u1]) ∧ Pkt.own (rng w.heap.size w'.heap.size) w' u0 u1 (advance x) ∧ Ext w w' := by
 obtain ⟨o, cap, rfl, hsm⟩ := r0.shape; have hx0 := ext2 w (.cells #[.int .i64 x.kind, .int .i64 x.src, .int .i64 x.dst, .slice o x.path.parts.length cap, .int .i64 x.pi, .int .i64 x.hi, .int .i64 x.beta, .int .i64 x.rid, .int .i64 x.seq, v1] 58) (.cells #[.int .i64 0, .int .i64 0, .int .i64 0, .slice none 0 0, .int .i64 0, .int .i64 0, .int .i64 0, .int .i64 0, .int .i64 0, .slice none 0 0] 58); have HB0 := Lib.hid (al2 w (.cells #[.int .i64 x.kind, .int .i64 x.src, .int .i64 x.dst, .slice o x.path.parts.length cap, .int .i64 x.pi, .int .i64 x.hi, .int .i64 x.beta, .int .i64 x.rid, .int .i64 x.seq, v1] 58) (.cells #[.int .i64 0, .int .i64 0, .int .i64 0, .slice none 0 0, .int .i64 0, .int .i64 0, .int .i64 0, .int .i64 0, .int .i64 0, .slice none 0 0] 58))
 go_enter Tryz.func114, Tryz.ntmps114
 have cf1 := blk10 HB0.out.1; have cf2 := blk10 HB0.out.2
 go_wp2_with fail
 refine (s_l26Copy x _ _ _ (r0.ext hx0) (r1.ext hx0) hl).mono ?_; rintro e w1 ⟨u0, u1, rfl, oo, hz1⟩; obtain ⟨o1, c1, rfl, _⟩ := (Pkt.own_rd0 oo).shape; obtain ⟨o2, c2, rfl, _⟩ := (Pkt.own_rd1 oo).shape; have hs1 : w.heap.size + 1 + 1 ≤ w1.heap.size := by simpa using hz1.size
 have OO := Lib.hid oo; clear oo
 try clear cf1
 try clear cf2
 have cf3 := blk10 (Ext.block hz1 HB0.out.1); have cf4 := blk10 (Ext.block hz1 HB0.out.2); have hx1 : Ext w1 (w1.alloc (.cells #[.int .i64 x.kind, .int .i64 x.src, .int .i64 x.dst, (.slice o1 x.path.parts.length c1), .int .i64 x.pi, .int .i64 x.hi, .int .i64 x.beta, .int .i64 x.rid, .int .i64 x.seq, (.slice o2 x.pay.length c2)] 58)) := (Ext.refl _).alloc _; have HB1 := Lib.hid (blk_new w1 (.cells #[.int .i64 x.kind, .int .i64 x.src, .int .i64 x.dst, (.slice o1 x.path.parts.length c1), .int .i64 x.pi, .int .i64 x.hi, .int .i64 x.beta, .int .i64 x.rid, .int .i64 x.seq, (.slice o2 x.pay.length c2)] 58)); have cf5 := blk10 (Ext.block (hz1.t hx1) HB0.out.1); have cf6 := blk10 (Ext.block (hz1.t hx1) HB0.out.2); have cf7 := blk10 HB1.out
 go_wp2_with fail
 refine (s_CurrentAS x _ _ _ (r0.ext ((hx0.t hz1).t hx1))).mono ?_; rintro e w2 ⟨rfl, hz2⟩
 by_cases b0 : curAs x < 0
 ·
  have hsz := (hx1.t hz2).size; have hso : w1.heap.size < w2.heap.size := blk_lt (Ext.block hz2 HB1.out); have hR := Ext.block ((hz1.t hx1).t hz2) HB0.out.2; have hO := Ext.block hz2 HB1.out; obtain ⟨wc, hwc, hrc, hcc, hsc⟩ := pk_set hR (.int .i64 x.kind) (.int .i64 x.src) (.int .i64 x.dst) ((.slice o1 x.path.parts.length c1)) (.int .i64 x.pi) (.int .i64 x.hi) (.int .i64 x.beta) (.int .i64 x.rid) (.int .i64 x.seq) ((.slice o2 x.pay.length c2)); have HOW := Lib.hid (Pkt.own_kept (Pkt.own_ext OO.out (hx1.t hz2)) hcc (fun b hb e => by have h1 := hb.1; have h2 := hb.2; simp at h1; omega)); have HXX := Lib.hid ((((hx0.t hz1).t hx1).t hz2).chg1 hcc (by omega)); have HWC := Lib.hid hwc; have HRC := Lib.hid hrc; have hsz2 : w2.heap.size = wc.heap.size := by rw [hsc]
  have hRF := fun o => fr_of hR o
  have gr0 := hRF 0; have gr1 := hRF 1; have gr2 := hRF 2; have gr3 := hRF 3; have gr4 := hRF 4; have gr5 := hRF 5; have gr6 := hRF 6; have gr7 := hRF 7; have gr8 := hRF 8; have gr9 := hRF 9; clear hRF hR hO  hwc hrc hcc hsc
  try clear cf5
  try clear cf6
  try clear cf7
  have cf8 := blk10 (Ext.block ((hz1.t hx1).t hz2) HB0.out.1); have cf9 := blk10 (Ext.block ((hz1.t hx1).t hz2) HB0.out.2); have cf10 := blk10 (Ext.block hz2 HB1.out)
  go_wp2_with fail
  rw [← HWC.out]; clear gr0 gr1 gr2 gr3 gr4 gr5 gr6 gr7 gr8 gr9 cf8 cf9 cf10; have cc := blk10 HRC.out; refine bodyPost_ret (v := .agg #[.int .i64 x.kind, .int .i64 x.src, .int .i64 x.dst, (.slice o1 x.path.parts.length c1), .int .i64 x.pi, .int .i64 x.hi, .int .i64 x.beta, .int .i64 x.rid, .int .i64 x.seq, (.slice o2 x.pay.length c2)]) (by simp [results, Tryz.results114, go_sem, cc]) rfl ?_; rw [adv_1 (x := x) (by omega)]; exact ⟨_, _, rfl, Pkt.own_mono HOW.out (fun b hb => ⟨by have h1 := hb.1; simp at h1; omega, by have h2 := hb.2; omega⟩), HXX.out⟩
 ·
  try clear cf5
  try clear cf6
  try clear cf7
  have cf11 := blk10 (Ext.block ((hz1.t hx1).t hz2) HB0.out.1); have cf12 := blk10 (Ext.block ((hz1.t hx1).t hz2) HB0.out.2); have cf13 := blk10 (Ext.block hz2 HB1.out)
  go_wp2_with fail
  refine (s_AtLastHop x _ _ _ (r0.ext (((hx0.t hz1).t hx1).t hz2))).mono ?_; rintro e w3 ⟨rfl, hz3⟩
  cases b1 : atLast x
  ·
   obtain ⟨⟨p0, p1, p2⟩, q0, q1, q2⟩ := hasHop_parts (curAs_has (x := x) (by omega)); have hcp := curPart_at p2; obtain ⟨b, off, oh, ch, eo, hc, hr⟩ := Part.at (r0.ext ((((hx0.t hz1).t hx1).t hz2).t hz3)) x.pi.toNat p2; rw [← hcp] at hc hr; clear hcp; have hlh : (curPart x).hops.length ≤ 9223372036854775807 := by obtain ⟨_, _, _, h⟩ := hr.shape; exact h
   cases eo
   have HLO := Lib.hid (lastOf_lt (x := x) (by omega)); have hw2 : IntKind.i64.wrap (((curPart x).hops.length : Int) - 1) = ((curPart x).hops.length : Int) - 1 := IntWalk.i64_in _ (by omega)
   by_cases b3 : x.hi < ((curPart x).hops.length : Int) - 1
   ·
    have b2 : lastOf x = false := by rw [HLO.out, decide_eq_true (by omega)]; rfl
    try clear cf11
    try clear cf12
    try clear cf13
    have cf14 := blk10 (Ext.block (((hz1.t hx1).t hz2).t hz3) HB0.out.1); have cf15 := blk10 (Ext.block (((hz1.t hx1).t hz2).t hz3) HB0.out.2); have cf16 := blk10 (Ext.block (hz2.t hz3) HB1.out)
    go_wp2_with fail
    refine wp_region_ext (by kernel_rfl) (by kernel_rfl) ?_; have q0 := ExtW.cell (cf14.1); have q1 := ExtW.cell (cf14.2.1); have q2 := ExtW.cell (cf14.2.2.1); have q3 := ExtW.cell (cf14.2.2.2.1); have q4 := ExtW.cell (cf14.2.2.2.2.1); have q5 := ExtW.cell (cf14.2.2.2.2.2.1); have q6 := ExtW.cell (cf14.2.2.2.2.2.2.1); have q7 := ExtW.cell (cf14.2.2.2.2.2.2.2.1); have q8 := ExtW.cell (cf14.2.2.2.2.2.2.2.2.1); have q9 := ExtW.cell (cf14.2.2.2.2.2.2.2.2.2); have q10 := ExtW.cell (cf15.1); have q11 := ExtW.cell (cf15.2.1); have q12 := ExtW.cell (cf15.2.2.1); have q13 := ExtW.cell (cf15.2.2.2.1); have q14 := ExtW.cell (cf15.2.2.2.2.1); have q15 := ExtW.cell (cf15.2.2.2.2.2.1); have q16 := ExtW.cell (cf15.2.2.2.2.2.2.1); have q17 := ExtW.cell (cf15.2.2.2.2.2.2.2.1); have q18 := ExtW.cell (cf15.2.2.2.2.2.2.2.2.1); have q19 := ExtW.cell (cf15.2.2.2.2.2.2.2.2.2); have q20 := ExtW.cell (cf16.1); have q21 := ExtW.cell (cf16.2.1); have q22 := ExtW.cell (cf16.2.2.1); have q23 := ExtW.cell (cf16.2.2.2.1); have q24 := ExtW.cell (cf16.2.2.2.2.1); have q25 := ExtW.cell (cf16.2.2.2.2.2.1); have q26 := ExtW.cell (cf16.2.2.2.2.2.2.1); have q27 := ExtW.cell (cf16.2.2.2.2.2.2.2.1); have q28 := ExtW.cell (cf16.2.2.2.2.2.2.2.2.1); have q29 := ExtW.cell (cf16.2.2.2.2.2.2.2.2.2); have q30 := ExtW.cell (hc.1); have q31 := ExtW.cell (hc.2.1); have q32 := ExtW.cell (hc.2.2.1); have q33 := ExtW.cell (hc.2.2.2)
    repeat (first | go_big_quiet_step ((fail)) | quiet_step ((fail)))
    refine wpQuiet_nil ?_; intro w4 hw4; have hz4 := ExtW.out hw4; clear hw4 q0 q1 q2 q3 q4 q5 q6 q7 q8 q9 q10 q11 q12 q13 q14 q15 q16 q17 q18 q19 q20 q21 q22 q23 q24 q25 q26 q27 q28 q29 q30 q31 q32 q33; clear hw2; have HV := Lib.hid (adv_4 (x := x) (by omega) b1 b2); have q3 : x.hi + 1 ≤ 9223372036854775807 := by have := hlh; omega
    have hsz := (((hx1.t hz2).t hz3).t hz4).size; have hso : w1.heap.size < w4.heap.size := blk_lt (Ext.block ((hz2.t hz3).t hz4) HB1.out); have hR := Ext.block ((((hz1.t hx1).t hz2).t hz3).t hz4) HB0.out.2; have hO := Ext.block ((hz2.t hz3).t hz4) HB1.out; obtain ⟨wq0, hwq0, hoq0, hcq0, hsq0⟩ := cell_set hO 5 (.int .i64 (x.hi + 1)); have hrq0 := hcq0.other hR (by omega); obtain ⟨wc, hwc, hrc, hcc, hsc⟩ := pk_set hrq0 (.int .i64 x.kind) (.int .i64 x.src) (.int .i64 x.dst) ((.slice o1 x.path.parts.length c1)) (.int .i64 x.pi) (.int .i64 (x.hi + 1)) (.int .i64 x.beta) (.int .i64 x.rid) (.int .i64 x.seq) ((.slice o2 x.pay.length c2)); have HOW := Lib.hid (Pkt.own_kept (Pkt.own_kept (Pkt.own_ext OO.out (((hx1.t hz2).t hz3).t hz4)) hcq0 (fun b hb e => by have h1 := hb.1; have h2 := hb.2; simp at h1; omega)) hcc (fun b hb e => by have h1 := hb.1; have h2 := hb.2; simp at h1; omega)); have hwc2 := hwc; rw [hwq0] at hwc2; have HXX := Lib.hid (((((((hx0.t hz1).t hx1).t hz2).t hz3).t hz4).chg1 hcq0 (by omega)).chg1 hcc (by omega)); have HWC := Lib.hid hwc2; have HRC := Lib.hid hrc; have hsz2 : w4.heap.size = wc.heap.size := by rw [hsc, hsq0]
    have hRF := fun o => fr_of hR o
    have gr0 := hRF 0; have gr1 := hRF 1; have gr2 := hRF 2; have gr3 := hRF 3; have gr4 := hRF 4; have gr5 := hRF 5; have gr6 := hRF 6; have gr7 := hRF 7; have gr8 := hRF 8; have gr9 := hRF 9; have hOF := fun o => fr_of hO o
    have go5 := hOF 5; clear hOF; clear hRF hR hO hwq0 hoq0 hcq0 hrq0 hwc2 hwc hrc hcc hsc hsq0
    try clear cf14
    try clear cf15
    try clear cf16
    have cf17 := blk10 (Ext.block ((((hz1.t hx1).t hz2).t hz3).t hz4) HB0.out.1); have cf18 := blk10 (Ext.block ((((hz1.t hx1).t hz2).t hz3).t hz4) HB0.out.2); have cf19 := blk10 (Ext.block ((hz2.t hz3).t hz4) HB1.out); have cf20 := Part.at_ext hz4 hc
    go_wp2_with fail
    rw [← HWC.out]; clear gr0 gr1 gr2 gr3 gr4 gr5 gr6 gr7 gr8 gr9 go5 cf17 cf18 cf19 cf20; have cc := blk10 HRC.out; refine bodyPost_ret (v := .agg #[.int .i64 x.kind, .int .i64 x.src, .int .i64 x.dst, (.slice o1 x.path.parts.length c1), .int .i64 x.pi, .int .i64 (x.hi + 1), .int .i64 x.beta, .int .i64 x.rid, .int .i64 x.seq, (.slice o2 x.pay.length c2)]) (by simp [results, Tryz.results114, go_sem, cc]) rfl ?_; rw [HV.out]; exact ⟨_, _, rfl, Pkt.own_mono HOW.out (fun b hb => ⟨by have h1 := hb.1; simp at h1; omega, by have h2 := hb.2; omega⟩), HXX.out⟩
   ·
    have b2 : lastOf x = true := by rw [HLO.out, decide_eq_false (by omega)]; rfl
    try clear cf11
    try clear cf12
    try clear cf13
    have cf21 := blk10 (Ext.block (((hz1.t hx1).t hz2).t hz3) HB0.out.1); have cf22 := blk10 (Ext.block (((hz1.t hx1).t hz2).t hz3) HB0.out.2); have cf23 := blk10 (Ext.block (hz2.t hz3) HB1.out)
    go_wp2_with fail
    refine wp_region_ext (by kernel_rfl) (by kernel_rfl) ?_; have q0 := ExtW.cell (cf21.1); have q1 := ExtW.cell (cf21.2.1); have q2 := ExtW.cell (cf21.2.2.1); have q3 := ExtW.cell (cf21.2.2.2.1); have q4 := ExtW.cell (cf21.2.2.2.2.1); have q5 := ExtW.cell (cf21.2.2.2.2.2.1); have q6 := ExtW.cell (cf21.2.2.2.2.2.2.1); have q7 := ExtW.cell (cf21.2.2.2.2.2.2.2.1); have q8 := ExtW.cell (cf21.2.2.2.2.2.2.2.2.1); have q9 := ExtW.cell (cf21.2.2.2.2.2.2.2.2.2); have q10 := ExtW.cell (cf22.1); have q11 := ExtW.cell (cf22.2.1); have q12 := ExtW.cell (cf22.2.2.1); have q13 := ExtW.cell (cf22.2.2.2.1); have q14 := ExtW.cell (cf22.2.2.2.2.1); have q15 := ExtW.cell (cf22.2.2.2.2.2.1); have q16 := ExtW.cell (cf22.2.2.2.2.2.2.1); have q17 := ExtW.cell (cf22.2.2.2.2.2.2.2.1); have q18 := ExtW.cell (cf22.2.2.2.2.2.2.2.2.1); have q19 := ExtW.cell (cf22.2.2.2.2.2.2.2.2.2); have q20 := ExtW.cell (cf23.1); have q21 := ExtW.cell (cf23.2.1); have q22 := ExtW.cell (cf23.2.2.1); have q23 := ExtW.cell (cf23.2.2.2.1); have q24 := ExtW.cell (cf23.2.2.2.2.1); have q25 := ExtW.cell (cf23.2.2.2.2.2.1); have q26 := ExtW.cell (cf23.2.2.2.2.2.2.1); have q27 := ExtW.cell (cf23.2.2.2.2.2.2.2.1); have q28 := ExtW.cell (cf23.2.2.2.2.2.2.2.2.1); have q29 := ExtW.cell (cf23.2.2.2.2.2.2.2.2.2); have q30 := ExtW.cell (hc.1); have q31 := ExtW.cell (hc.2.1); have q32 := ExtW.cell (hc.2.2.1); have q33 := ExtW.cell (hc.2.2.2)
    repeat (first | go_big_quiet_step ((fail)) | quiet_step ((fail)))
    refine wpQuiet_nil ?_; intro w5 hw5; have hz5 := ExtW.out hw5; clear hw5 q0 q1 q2 q3 q4 q5 q6 q7 q8 q9 q10 q11 q12 q13 q14 q15 q16 q17 q18 q19 q20 q21 q22 q23 q24 q25 q26 q27 q28 q29 q30 q31 q32 q33; clear hw2; have p3 := adv_next (x := x) (by omega) b1 b2; have p4 : (x.pi + 1).toNat < x.path.parts.length := by omega
    have HAT := Lib.hid (show (partAt x.path.parts (x.pi.toNat + 1)).beta = x.path.parts[(x.pi + 1).toNat].beta by rw [partAt_at p3]; simp only [show (x.pi + 1).toNat = x.pi.toNat + 1 by omega]); have HV := Lib.hid ((adv_3 (x := x) (by omega) b1 b2).trans (by rw [HAT.out])); have p5 : x.pi + 1 < (x.path.parts.length : Int) := by omega
    have p6 : 0 ≤ x.pi + 1 := by omega
    obtain ⟨bb, ff, oh2, ch2, e2, hd0, _⟩ := Part.at r0 (x.pi + 1).toNat p4
    cases e2
    have hbo : b < w.heap.size := World.block_lt_of_cell? w ⟨b, off + (x.pi + 1).toNat * 4, none⟩ hd0.1; have hbn1 : b ≠ w1.heap.size := by omega
    have hbn2 : w.heap.size ≠ w1.heap.size := by omega
    have hsz := (((hx1.t hz2).t hz3).t hz5).size; have hso : w1.heap.size < w5.heap.size := blk_lt (Ext.block ((hz2.t hz3).t hz5) HB1.out); have hR := Ext.block ((((hz1.t hx1).t hz2).t hz3).t hz5) HB0.out.2; have hO := Ext.block ((hz2.t hz3).t hz5) HB1.out; obtain ⟨wq0, hwq0, hoq0, hcq0, hsq0⟩ := cell_set hO 4 (.int .i64 (x.pi + 1)); have hrq0 := hcq0.other hR (by omega); obtain ⟨wq1, hwq1, hoq1, hcq1, hsq1⟩ := cell_set hoq0 5 (.int .i64 0); have hrq1 := hcq1.other hrq0 (by omega); obtain ⟨wq2, hwq2, hoq2, hcq2, hsq2⟩ := cell_set hoq1 6 (.int .i64 x.path.parts[(x.pi + 1).toNat].beta); have hrq2 := hcq2.other hrq1 (by omega); obtain ⟨wc, hwc, hrc, hcc, hsc⟩ := pk_set hrq2 (.int .i64 x.kind) (.int .i64 x.src) (.int .i64 x.dst) ((.slice o1 x.path.parts.length c1)) (.int .i64 (x.pi + 1)) (.int .i64 (0)) (.int .i64 (x.path.parts[(x.pi + 1).toNat].beta)) (.int .i64 x.rid) (.int .i64 x.seq) ((.slice o2 x.pay.length c2)); have HOW := Lib.hid (Pkt.own_kept (Pkt.own_kept (Pkt.own_kept (Pkt.own_kept (Pkt.own_ext OO.out (((hx1.t hz2).t hz3).t hz5)) hcq0 (fun b hb e => by have h1 := hb.1; have h2 := hb.2; simp at h1; omega)) hcq1 (fun b hb e => by have h1 := hb.1; have h2 := hb.2; simp at h1; omega)) hcq2 (fun b hb e => by have h1 := hb.1; have h2 := hb.2; simp at h1; omega)) hcc (fun b hb e => by have h1 := hb.1; have h2 := hb.2; simp at h1; omega)); have hwc2 := hwc; rw [hwq2, hwq1, hwq0] at hwc2
    have HXX := Lib.hid (((((((((hx0.t hz1).t hx1).t hz2).t hz3).t hz5).chg1 hcq0 (by omega)).chg1 hcq1 (by omega)).chg1 hcq2 (by omega)).chg1 hcc (by omega)); have HWC := Lib.hid hwc2; have HRC := Lib.hid hrc; have hsz2 : w5.heap.size = wc.heap.size := by rw [hsc, hsq2, hsq1, hsq0]
    have hRF := fun o => fr_of hR o
    have gr0 := hRF 0; have gr1 := hRF 1; have gr2 := hRF 2; have gr3 := hRF 3; have gr4 := hRF 4; have gr5 := hRF 5; have gr6 := hRF 6; have gr7 := hRF 7; have gr8 := hRF 8; have gr9 := hRF 9; have hOF := fun o => fr_of hO o
    have go4 := hOF 4; have go5 := hOF 5; have go6 := hOF 6; clear hOF; clear hRF hR hO hwq0 hoq0 hcq0 hrq0 hwq1 hoq1 hcq1 hrq1 hwq2 hoq2 hcq2 hrq2 hwc2 hwc hrc hcc hsc hsq0 hsq1 hsq2
    try clear cf21
    try clear cf22
    try clear cf23
    have cf24 := blk10 (Ext.block ((((hz1.t hx1).t hz2).t hz3).t hz5) HB0.out.1); have cf25 := blk10 (Ext.block ((((hz1.t hx1).t hz2).t hz3).t hz5) HB0.out.2); have cf26 := blk10 (Ext.block ((hz2.t hz3).t hz5) HB1.out); have cf27 := Part.at_ext hz5 hc; have cf28 := Part.at_ext (((((hx0.t hz1).t hx1).t hz2).t hz3).t hz5) hd0
    go_wp2_with fail
    rw [← HWC.out]; clear gr0 gr1 gr2 gr3 gr4 gr5 gr6 gr7 gr8 gr9 go4 go5 go6 cf24 cf25 cf26 cf27 cf28; have cc := blk10 HRC.out; refine bodyPost_ret (v := .agg #[.int .i64 x.kind, .int .i64 x.src, .int .i64 x.dst, (.slice o1 x.path.parts.length c1), .int .i64 (x.pi + 1), .int .i64 (0), .int .i64 (x.path.parts[(x.pi + 1).toNat].beta), .int .i64 x.rid, .int .i64 x.seq, (.slice o2 x.pay.length c2)]) (by simp [results, Tryz.results114, go_sem, cc]) rfl ?_; rw [HV.out]; exact ⟨_, _, rfl, Pkt.own_mono HOW.out (fun b hb => ⟨by have h1 := hb.1; simp at h1; omega, by have h2 := hb.2; omega⟩), HXX.out⟩
  ·
   have hsz := ((hx1.t hz2).t hz3).size; have hso : w1.heap.size < w3.heap.size := blk_lt (Ext.block (hz2.t hz3) HB1.out); have hR := Ext.block (((hz1.t hx1).t hz2).t hz3) HB0.out.2; have hO := Ext.block (hz2.t hz3) HB1.out; obtain ⟨wc, hwc, hrc, hcc, hsc⟩ := pk_set hR (.int .i64 x.kind) (.int .i64 x.src) (.int .i64 x.dst) ((.slice o1 x.path.parts.length c1)) (.int .i64 x.pi) (.int .i64 x.hi) (.int .i64 x.beta) (.int .i64 x.rid) (.int .i64 x.seq) ((.slice o2 x.pay.length c2)); have HOW := Lib.hid (Pkt.own_kept (Pkt.own_ext OO.out ((hx1.t hz2).t hz3)) hcc (fun b hb e => by have h1 := hb.1; have h2 := hb.2; simp at h1; omega)); have HXX := Lib.hid (((((hx0.t hz1).t hx1).t hz2).t hz3).chg1 hcc (by omega)); have HWC := Lib.hid hwc; have HRC := Lib.hid hrc; have hsz2 : w3.heap.size = wc.heap.size := by rw [hsc]
   have hRF := fun o => fr_of hR o
   have gr0 := hRF 0; have gr1 := hRF 1; have gr2 := hRF 2; have gr3 := hRF 3; have gr4 := hRF 4; have gr5 := hRF 5; have gr6 := hRF 6; have gr7 := hRF 7; have gr8 := hRF 8; have gr9 := hRF 9; clear hRF hR hO  hwc hrc hcc hsc
   try clear cf11
   try clear cf12
   try clear cf13
   have cf29 := blk10 (Ext.block (((hz1.t hx1).t hz2).t hz3) HB0.out.1); have cf30 := blk10 (Ext.block (((hz1.t hx1).t hz2).t hz3) HB0.out.2); have cf31 := blk10 (Ext.block (hz2.t hz3) HB1.out)
   go_wp2_with fail
   rw [← HWC.out]; clear gr0 gr1 gr2 gr3 gr4 gr5 gr6 gr7 gr8 gr9 cf29 cf30 cf31; have cc := blk10 HRC.out; refine bodyPost_ret (v := .agg #[.int .i64 x.kind, .int .i64 x.src, .int .i64 x.dst, (.slice o1 x.path.parts.length c1), .int .i64 x.pi, .int .i64 x.hi, .int .i64 x.beta, .int .i64 x.rid, .int .i64 x.seq, (.slice o2 x.pay.length c2)]) (by simp [results, Tryz.results114, go_sem, cc]) rfl ?_; rw [adv_2 b1]; exact ⟨_, _, rfl, Pkt.own_mono HOW.out (fun b hb => ⟨by have h1 := hb.1; simp at h1; omega, by have h2 := hb.2; omega⟩), HXX.out⟩
set_option maxRecDepth 100000 in
set_option maxHeartbeats 4000000 in
theorem i_CurrentHopValid (x : Pkt) (v0 v1 : Value) (now : Int) (w : World) (r0 : RdS Part.rep w v0 x.path.parts) :
  Calls Tryz.prog 45 #[.agg #[.int .i64 x.kind, .int .i64 x.src, .int .i64 x.dst, v0, .int .i64 x.pi, .int .i64 x.hi, .int .i64 x.beta, .int .i64 x.rid, .int .i64 x.seq, v1], .int .i64 now] w fun e w' => e = .returned (.bool (curIn x now)) ∧ Ext w w' := by
 obtain ⟨o, cap, rfl, hsm⟩ := r0.shape; have hx0 : Ext w (w.alloc (.cells #[.int .i64 x.kind, .int .i64 x.src, .int .i64 x.dst, .slice o x.path.parts.length cap, .int .i64 x.pi, .int .i64 x.hi, .int .i64 x.beta, .int .i64 x.rid, .int .i64 x.seq, v1] 58)) := (Ext.refl _).alloc _; have HB0 := Lib.hid (blk_new w (.cells #[.int .i64 x.kind, .int .i64 x.src, .int .i64 x.dst, .slice o x.path.parts.length cap, .int .i64 x.pi, .int .i64 x.hi, .int .i64 x.beta, .int .i64 x.rid, .int .i64 x.seq, v1] 58))
 go_enter Tryz.func45, Tryz.ntmps45
 have cf1 := blk10 HB0.out
 go_wp2_with fail
 refine (i_CurrentAS x _ _ _ (r0.ext hx0)).mono ?_; rintro e w1 ⟨rfl, hz1⟩
 by_cases b0 : curAs x < 0
 ·
  have HE := Lib.hid (curIn_1 (now := now) b0)
  try clear cf1
  have cf2 := blk10 (Ext.block hz1 HB0.out)
  go_wp2_with fail
  go_ret
  exact ⟨ret_bool HE.out.symm, (hx0.t hz1)⟩
 ·
  have HE := Lib.hid (curIn_2 (x := x) (now := now) (by omega)); obtain ⟨⟨p0, p1, p2⟩, q0, q1, q2⟩ := hasHop_parts (curAs_has (x := x) (by omega)); have hcp := curPart_at p2; obtain ⟨b, off, oh, ch, rfl, hc, hr⟩ := Part.at (r0.ext (hx0.t hz1)) x.pi.toNat p2; rw [← hcp] at hc hr; clear hcp; have hch := curHop_at q2; obtain ⟨b3, off3, rfl, ht⟩ := Hop.at hr x.hi.toNat q2; rw [← hch] at ht; clear hch
  try clear cf1
  have cf3 := blk10 (Ext.block hz1 HB0.out); have hx1 : Ext w1 (w1.alloc (.cells #[.int .i64 (curPart x).kind, .int .i64 (curPart x).ts, .int .i64 (curPart x).beta, .slice (some ⟨b3, off3, none⟩) (curPart x).hops.length ch] 74)) := (Ext.refl _).alloc _; have HB1 := Lib.hid (blk_new w1 (.cells #[.int .i64 (curPart x).kind, .int .i64 (curPart x).ts, .int .i64 (curPart x).beta, .slice (some ⟨b3, off3, none⟩) (curPart x).hops.length ch] 74))
  by_cases b1 : (curPart x).ts ≤ now
  ·
   have B1 := Lib.hid b1; have cf4 := blk10 (Ext.block (hz1.t hx1) HB0.out); have cf5 := blk4 HB1.out; have cf6 := Part.at_ext hx1 hc; have cf7 := hopc_ext hx1 ht
   go_wp2_with fail
   refine (i_HopValidAt (curHop x) now _).mono ?_; rintro e w2 ⟨rfl, hz2⟩
   try clear cf4
   try clear cf5
   try clear cf6
   try clear cf7
   have cf8 := blk10 (Ext.block ((hz1.t hx1).t hz2) HB0.out); have cf9 := blk4 (Ext.block hz2 HB1.out); have cf10 := Part.at_ext (hx1.t hz2) hc; have cf11 := hopc_ext (hx1.t hz2) ht
   go_wp2_with fail
   go_ret
   exact ⟨ret_bool (by rw [HE.out, decide_eq_true B1.out]; rfl), (((hx0.t hz1).t hx1).t hz2)⟩
  ·
   have B1 := Lib.hid b1; have cf12 := blk10 (Ext.block (hz1.t hx1) HB0.out); have cf13 := blk4 HB1.out; have cf14 := Part.at_ext hx1 hc; have cf15 := hopc_ext hx1 ht
   go_wp2_with fail
   go_ret
   exact ⟨ret_bool (by rw [HE.out, decide_eq_false (by have := B1.out; omega)]; rfl), ((hx0.t hz1).t hx1)⟩
set_option maxRecDepth 100000 in
set_option maxHeartbeats 4000000 in
theorem s_CurrentHopValid (x : Pkt) (v0 v1 : Value) (now : Int) (w : World) (r0 : RdS Part.rep w v0 x.path.parts) :
  Calls Tryz.prog 186 #[.agg #[.int .i64 x.kind, .int .i64 x.src, .int .i64 x.dst, v0, .int .i64 x.pi, .int .i64 x.hi, .int .i64 x.beta, .int .i64 x.rid, .int .i64 x.seq, v1], .int .i64 now] w fun e w' => e = .returned (.bool (curIn x now)) ∧ Ext w w' := by
 obtain ⟨o, cap, rfl, hsm⟩ := r0.shape; have hx0 : Ext w (w.alloc (.cells #[.int .i64 x.kind, .int .i64 x.src, .int .i64 x.dst, .slice o x.path.parts.length cap, .int .i64 x.pi, .int .i64 x.hi, .int .i64 x.beta, .int .i64 x.rid, .int .i64 x.seq, v1] 58)) := (Ext.refl _).alloc _; have HB0 := Lib.hid (blk_new w (.cells #[.int .i64 x.kind, .int .i64 x.src, .int .i64 x.dst, .slice o x.path.parts.length cap, .int .i64 x.pi, .int .i64 x.hi, .int .i64 x.beta, .int .i64 x.rid, .int .i64 x.seq, v1] 58))
 go_enter Tryz.func186, Tryz.ntmps186
 have cf1 := blk10 HB0.out
 go_wp2_with fail
 refine (s_CurrentAS x _ _ _ (r0.ext hx0)).mono ?_; rintro e w1 ⟨rfl, hz1⟩
 by_cases b0 : curAs x < 0
 ·
  have HE := Lib.hid (curIn_1 (now := now) b0)
  try clear cf1
  have cf2 := blk10 (Ext.block hz1 HB0.out)
  go_wp2_with fail
  go_ret
  exact ⟨ret_bool HE.out.symm, (hx0.t hz1)⟩
 ·
  have HE := Lib.hid (curIn_2 (x := x) (now := now) (by omega)); obtain ⟨⟨p0, p1, p2⟩, q0, q1, q2⟩ := hasHop_parts (curAs_has (x := x) (by omega)); have hcp := curPart_at p2; obtain ⟨b, off, oh, ch, rfl, hc, hr⟩ := Part.at (r0.ext (hx0.t hz1)) x.pi.toNat p2; rw [← hcp] at hc hr; clear hcp; have hch := curHop_at q2; obtain ⟨b3, off3, rfl, ht⟩ := Hop.at hr x.hi.toNat q2; rw [← hch] at ht; clear hch
  try clear cf1
  have cf3 := blk10 (Ext.block hz1 HB0.out); have hx1 : Ext w1 (w1.alloc (.cells #[.int .i64 (curPart x).kind, .int .i64 (curPart x).ts, .int .i64 (curPart x).beta, .slice (some ⟨b3, off3, none⟩) (curPart x).hops.length ch] 74)) := (Ext.refl _).alloc _; have HB1 := Lib.hid (blk_new w1 (.cells #[.int .i64 (curPart x).kind, .int .i64 (curPart x).ts, .int .i64 (curPart x).beta, .slice (some ⟨b3, off3, none⟩) (curPart x).hops.length ch] 74))
  by_cases b1 : (curPart x).ts ≤ now
  ·
   have B1 := Lib.hid b1; have cf4 := blk10 (Ext.block (hz1.t hx1) HB0.out); have cf5 := blk4 HB1.out; have cf6 := Part.at_ext hx1 hc; have cf7 := hopc_ext hx1 ht
   go_wp2_with fail
   refine (s_HopValidAt (curHop x) now _).mono ?_; rintro e w2 ⟨rfl, hz2⟩
   try clear cf4
   try clear cf5
   try clear cf6
   try clear cf7
   have cf8 := blk10 (Ext.block ((hz1.t hx1).t hz2) HB0.out); have cf9 := blk4 (Ext.block hz2 HB1.out); have cf10 := Part.at_ext (hx1.t hz2) hc; have cf11 := hopc_ext (hx1.t hz2) ht
   go_wp2_with fail
   go_ret
   exact ⟨ret_bool (by rw [HE.out, decide_eq_true B1.out]; rfl), (((hx0.t hz1).t hx1).t hz2)⟩
  ·
   have B1 := Lib.hid b1; have cf12 := blk10 (Ext.block (hz1.t hx1) HB0.out); have cf13 := blk4 HB1.out; have cf14 := Part.at_ext hx1 hc; have cf15 := hopc_ext hx1 ht
   go_wp2_with fail
   go_ret
   exact ⟨ret_bool (by rw [HE.out, decide_eq_false (by have := B1.out; omega)]; rfl), ((hx0.t hz1).t hx1)⟩
end
end Go.Proofs.YtcpfmhgfaliemaaGreat
