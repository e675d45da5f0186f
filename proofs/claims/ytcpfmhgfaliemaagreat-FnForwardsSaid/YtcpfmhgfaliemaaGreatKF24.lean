/- What these laws need: FnForwards: Contracts of what becomes of a packet at an AS, program and reference. -/
import Derived.Test.YtcpfmhgfaliemaaGreatKF22
namespace Go.Proofs.YtcpfmhgfaliemaaGreat
section
open Go.ChangeShapes Go.WideShapes Go.ChangeAt Go.RowKit Go.Deep
theorem fw_bad {t : Topo} {r now dead inn : Int} {x : Pkt} (h : (validPkt x && simple t x.path && (curAs x == r)) = false) : forward t r now dead inn x = ⟨2, 0, x⟩ := by unfold forward; rw [h]; rfl
theorem fw_in {t : Topo} {r now dead inn : Int} {x : Pkt} (h : (validPkt x && simple t x.path && (curAs x == r)) = true) (h2 : (inn != wantIn x) = true) : forward t r now dead inn x = ⟨3, 0, x⟩ := by unfold forward; rw [h, h2]; rfl
theorem fw_chk {t : Topo} {r now dead inn c : Int} {x z : Pkt} (h : (validPkt x && simple t x.path && (curAs x == r)) = true) (h2 : (inn != wantIn x) = false) (hc : chkAll t now x.path.parts.length x = (c, z)) (h3 : ¬ c = 0) : forward t r now dead inn x = ⟨c, 0, x⟩ := by
 unfold forward; rw [h, h2, hc]; simp [h3]
theorem fw_del {t : Topo} {r now dead inn : Int} {x z : Pkt} (h : (validPkt x && simple t x.path && (curAs x == r)) = true) (h2 : (inn != wantIn x) = false) (hc : chkAll t now x.path.parts.length x = (0, z)) (h3 : atLast z = true) : forward t r now dead inn x = if z.dst == r then ⟨1, 0, z⟩ else ⟨2, 0, x⟩ := by
 unfold forward; rw [h, h2, hc]; simp [h3]
theorem fw_out {t : Topo} {r now dead inn : Int} {x z : Pkt} (h : (validPkt x && simple t x.path && (curAs x == r)) = true) (h2 : (inn != wantIn x) = false) (hc : chkAll t now x.path.parts.length x = (0, z)) (h3 : atLast z = false) :
  forward t r now dead inn x = if !(stepOk t ⟨r, inn, partEg (curPart z) z.hi⟩) then ⟨6, 0, x⟩ else if inSet dead (partEg (curPart z) z.hi) then ⟨7, 0, x⟩ else ⟨0, partEg (curPart z) z.hi, advance z⟩ := by
 unfold forward; rw [h, h2, hc]; simp [h3]
theorem chk_stop {t : Topo} {now : Int} {f : Nat} {x : Pkt} (h : (chkCode t now x == 0 && lastOf (verCur t x) && !(atLast (verCur t x))) = false) : chkAll t now f x = (chkCode t now x, verCur t x) := by
 cases f with
 | zero => rfl
 | succ f => unfold chkAll; rw [h]; rfl
theorem chk_go {t : Topo} {now : Int} {f : Nat} {x : Pkt} (h : chkCode t now x = 0) (h2 : lastOf (verCur t x) = true) (h3 : atLast (verCur t x) = false) : chkAll t now (f + 1) x = chkAll t now f (advance (verCur t x)) := by
 rw [chkAll, h, h2, h3]; rfl
theorem code_has {t : Topo} {now : Int} {x : Pkt} (h : chkCode t now x = 0) : hasHop (verCur t x) = true ∧ ¬ curAs (verCur t x) < 0 := by
 have h1 : curOk t x = true := by
  cases hh : curOk t x
  ·
   rw [code_4 hh] at h; exact absurd h (by decide)
  ·
   rfl
 have h2 : ¬ curAs (verCur t x) < 0 := by
  intro hn; rw [verCur_curAs] at hn; rw [curOk_neg hn] at h1; cases h1
 exact ⟨curAs_has h2, h2⟩
theorem adv_path (x : Pkt) : (advance x).path = x.path := by unfold advance; split; rfl; split <;> rfl
theorem adv_size (x : Pkt) : (advance x).size = x.size := by unfold Pkt.size; rw [adv_path]; unfold advance; split; rfl; split <;> rfl
theorem adv_pi {x : Pkt} (h : ¬ curAs x < 0) (h2 : atLast x = false) (h3 : lastOf x = true) : (advance x).pi.toNat = x.pi.toNat + 1 := by
 obtain ⟨⟨p0, _⟩, _⟩ := hasHop_parts (curAs_has h); rw [adv_3 h h2 h3]; show (x.pi + 1).toNat = _; omega
theorem wantIn_t {x : Pkt} (h : ((x.pi == 0) && (x.hi == 0)) = true) : wantIn x = 0 := by unfold wantIn; rw [h]; rfl
theorem wantIn_f {x : Pkt} (h : ((x.pi == 0) && (x.hi == 0)) = false) : wantIn x = partIn (curPart x) x.hi := by unfold wantIn; rw [h]; rfl
theorem valid_has {x : Pkt} (h : validPkt x = true) : hasHop x = true := by
 rw [validPkt_eq] at h; simp only [Bool.and_eq_true] at h; exact h.1.1.1.2
def CurSt (lo g : Nat) (z : Pkt) (c : Int) (w : World) : Prop :=
 ∃ (o0 : Option Addr) (n0 c0 : Nat) (o1 : Option Addr) (n1 c1 : Nat) (S : Nat → Prop), w.heap[g]? = some (.cells #[.int .i64 z.kind, .int .i64 z.src, .int .i64 z.dst, .slice o0 n0 c0, .int .i64 z.pi, .int .i64 z.hi, .int .i64 z.beta, .int .i64 z.rid, .int .i64 z.seq, .slice o1 n1 c1] 58) ∧
  (c = 0 → Pkt.own S w (.slice o0 n0 c0) (.slice o1 n1 c1) z) ∧ ∀ b, S b → lo ≤ b ∧ b < w.heap.size ∧ b ≠ g
set_option maxRecDepth 100000 in
set_option maxHeartbeats 40000000 in
theorem i_decide (t : Topo) (va vk : Value) (r now dead inn : Int) (x : Pkt) (v0 v1 : Value) (w : World) (ha : RdS ASd.rep w va t.ases) (hk : RdS Lnk.rep w vk t.links) (r0 : RdS Part.rep w v0 x.path.parts) (r1 : RdS Rep.byte w v1 x.pay) (hl : x.size ≤ 1048576) :
  Calls Tryz.prog 106 #[.agg #[va, vk], .int .i64 r, .int .i64 now, .int .i64 dead, .int .i64 inn, .agg #[.int .i64 x.kind, .int .i64 x.src, .int .i64 x.dst, v0, .int .i64 x.pi, .int .i64 x.hi, .int .i64 x.beta, .int .i64 x.rid, .int .i64 x.seq, v1]] w fun e w' => ∃ u0 u1 out, e = .returned (.tuple #[.agg #[.int .i64 (forward t r now dead inn x).code, .int .i64 (forward t r now dead inn x).eg, .int .i64 (forward t r now dead inn x).pkt.kind, .int .i64 (forward t r now dead inn x).pkt.src, .int .i64 (forward t r now dead inn x).pkt.dst, u0, .int .i64 (forward t r now dead inn x).pkt.pi, .int .i64 (forward t r now dead inn x).pkt.hi, .int .i64 (forward t r now dead inn x).pkt.beta, .int .i64 (forward t r now dead inn x).pkt.rid, .int .i64 (forward t r now dead inn x).pkt.seq, u1], .int .i64 out]) ∧ Pkt.own (rng w.heap.size w'.heap.size) w' u0 u1 (forward t r now dead inn x).pkt ∧ Ext w w' := by
 have hlp : x.path.size ≤ 1048576 := by unfold Pkt.size at hl; omega
 obtain ⟨o, cap, rfl, hsm⟩ := r0.shape; obtain ⟨oy, cy, rfl, hsy⟩ := r1.shape; have hx0 := ext3 w (.cells #[va, vk] 56) (.cells #[.int .i64 x.kind, .int .i64 x.src, .int .i64 x.dst, .slice o x.path.parts.length cap, .int .i64 x.pi, .int .i64 x.hi, .int .i64 x.beta, .int .i64 x.rid, .int .i64 x.seq, .slice oy x.pay.length cy] 58) (.cells #[.int .i64 0, .int .i64 0, .int .i64 0, .int .i64 0, .int .i64 0, .slice none 0 0, .int .i64 0, .int .i64 0, .int .i64 0, .int .i64 0, .int .i64 0, .slice none 0 0] 62); have HB0 := Lib.hid (al3 w (.cells #[va, vk] 56) (.cells #[.int .i64 x.kind, .int .i64 x.src, .int .i64 x.dst, .slice o x.path.parts.length cap, .int .i64 x.pi, .int .i64 x.hi, .int .i64 x.beta, .int .i64 x.rid, .int .i64 x.seq, .slice oy x.pay.length cy] 58) (.cells #[.int .i64 0, .int .i64 0, .int .i64 0, .int .i64 0, .int .i64 0, .slice none 0 0, .int .i64 0, .int .i64 0, .int .i64 0, .int .i64 0, .int .i64 0, .slice none 0 0] 62))
 go_enter Tryz.func106, Tryz.ntmps106
 have cf1 := blk2 HB0.out.1; have cf2 := blk10 HB0.out.2.1; have cf3 := blk12 HB0.out.2.2
 go_wp2_with fail
 refine (i_ValidPacket x _ _ _ (r0.ext hx0) (r1.ext hx0)).mono ?_; rintro e w1 ⟨rfl, hz1⟩
 cases bv : validPkt x
 ·
  have HE := Lib.hid (fw_bad (t := t) (r := r) (now := now) (dead := dead) (inn := inn) (x := x) (by rw [bv]; rfl))
  try clear cf1
  try clear cf2
  try clear cf3
  have cf4 := blk2 (Ext.block hz1 HB0.out.1); have cf5 := blk10 (Ext.block hz1 HB0.out.2.1); have cf6 := blk12 (Ext.block hz1 HB0.out.2.2)
  go_wp2_with fail
  refine (i_decide1 (2) x _ _ (w.heap.size + 1) _ (Ext.block hz1 HB0.out.2.1) (r0.ext (hx0.t hz1)) (r1.ext (hx0.t hz1)) hl).mono ?_; rintro e w2 ⟨u0, u1, rfl, oo, hz2⟩; obtain ⟨oa, ca, rfl, _⟩ := (Pkt.own_rd0 oo).shape; obtain ⟨ob, cb, rfl, _⟩ := (Pkt.own_rd1 oo).shape; have hs1 : w.heap.size + 1 + 1 + 1 ≤ w1.heap.size := by simpa using hz1.size
  have OX := Lib.hid oo; clear oo; have hR := Ext.block (hz1.t hz2) HB0.out.2.2; obtain ⟨wc, hwc, hrc, hcc, hsc⟩ := vd_set hR (.int .i64 (2)) (.int .i64 0) (.int .i64 x.kind) (.int .i64 x.src) (.int .i64 x.dst) ((.slice oa x.path.parts.length ca)) (.int .i64 x.pi) (.int .i64 x.hi) (.int .i64 x.beta) (.int .i64 x.rid) (.int .i64 x.seq) ((.slice ob x.pay.length cb)); have HOW := Lib.hid (Pkt.own_kept OX.out hcc (fun b hb e => by have h1 := hb.1; have h2 := hb.2; have h3 := hs1; ((try simp at h1) <;> omega))); have HXX := Lib.hid (((hx0.t hz1).t hz2).chg1 hcc (by omega)); have HWC := Lib.hid hwc; have HRC := Lib.hid hrc; have hsz2 : w2.heap.size = wc.heap.size := by rw [hsc]
  have hRF := fun o => fr_of hR o
  have gr0 := hRF 0; have gr1 := hRF 1; have gr2 := hRF 2; have gr3 := hRF 3; have gr4 := hRF 4; have gr5 := hRF 5; have gr6 := hRF 6; have gr7 := hRF 7; have gr8 := hRF 8; have gr9 := hRF 9; have gr10 := hRF 10; have gr11 := hRF 11; clear hRF hR  hwc hrc hcc hsc
  try clear cf4
  try clear cf5
  try clear cf6
  have cf7 := blk2 (Ext.block (hz1.t hz2) HB0.out.1); have cf8 := blk10 (Ext.block (hz1.t hz2) HB0.out.2.1); have cf9 := blk12 (Ext.block (hz1.t hz2) HB0.out.2.2)
  go_wp2_with fail
  rw [← HWC.out]; clear gr0 gr1 gr2 gr3 gr4 gr5 gr6 gr7 gr8 gr9 gr10 gr11 cf7 cf8 cf9; have cc := blk12 HRC.out; refine bodyPost_ret (v := .tuple #[.agg #[.int .i64 (2), .int .i64 0, .int .i64 x.kind, .int .i64 x.src, .int .i64 x.dst, (.slice oa x.path.parts.length ca), .int .i64 x.pi, .int .i64 x.hi, .int .i64 x.beta, .int .i64 x.rid, .int .i64 x.seq, (.slice ob x.pay.length cb)], .int .i64 0]) (by simp [results, Tryz.results106, go_sem, cc]) rfl ?_; rw [HE.out]; exact ⟨_, _, _, rfl, Pkt.own_mono HOW.out (fun b hb => ⟨by have h1 := hb.1; have h3 := hs1; omega, by have h2 := hb.2; omega⟩), HXX.out⟩
 ·
  try clear cf1
  try clear cf2
  try clear cf3
  have cf10 := blk2 (Ext.block hz1 HB0.out.1); have cf11 := blk10 (Ext.block hz1 HB0.out.2.1); have cf12 := blk12 (Ext.block hz1 HB0.out.2.2)
  go_wp2_with fail
  refine (i_SimplePath t _ _ x.path _ _ (ha.ext (hx0.t hz1)) (hk.ext (hx0.t hz1)) (r0.ext (hx0.t hz1)) hlp).mono ?_; rintro e w3 ⟨rfl, hz3⟩
  cases bs : simple t x.path
  ·
   have HE := Lib.hid (fw_bad (t := t) (r := r) (now := now) (dead := dead) (inn := inn) (x := x) (by rw [bs]; simp))
   try clear cf10
   try clear cf11
   try clear cf12
   have cf13 := blk2 (Ext.block (hz1.t hz3) HB0.out.1); have cf14 := blk10 (Ext.block (hz1.t hz3) HB0.out.2.1); have cf15 := blk12 (Ext.block (hz1.t hz3) HB0.out.2.2)
   go_wp2_with fail
   refine (i_decide1 (2) x _ _ (w.heap.size + 1) _ (Ext.block (hz1.t hz3) HB0.out.2.1) (r0.ext ((hx0.t hz1).t hz3)) (r1.ext ((hx0.t hz1).t hz3)) hl).mono ?_; rintro e w4 ⟨u0, u1, rfl, oo, hz4⟩; obtain ⟨oa, ca, rfl, _⟩ := (Pkt.own_rd0 oo).shape; obtain ⟨ob, cb, rfl, _⟩ := (Pkt.own_rd1 oo).shape; have hs1 : w.heap.size + 1 + 1 + 1 ≤ w3.heap.size := by simpa using (hz1.t hz3).size
   have OX := Lib.hid oo; clear oo; have hR := Ext.block ((hz1.t hz3).t hz4) HB0.out.2.2; obtain ⟨wc, hwc, hrc, hcc, hsc⟩ := vd_set hR (.int .i64 (2)) (.int .i64 0) (.int .i64 x.kind) (.int .i64 x.src) (.int .i64 x.dst) ((.slice oa x.path.parts.length ca)) (.int .i64 x.pi) (.int .i64 x.hi) (.int .i64 x.beta) (.int .i64 x.rid) (.int .i64 x.seq) ((.slice ob x.pay.length cb)); have HOW := Lib.hid (Pkt.own_kept OX.out hcc (fun b hb e => by have h1 := hb.1; have h2 := hb.2; have h3 := hs1; ((try simp at h1) <;> omega))); have HXX := Lib.hid ((((hx0.t hz1).t hz3).t hz4).chg1 hcc (by omega)); have HWC := Lib.hid hwc; have HRC := Lib.hid hrc; have hsz2 : w4.heap.size = wc.heap.size := by rw [hsc]
   have hRF := fun o => fr_of hR o
   have gr0 := hRF 0; have gr1 := hRF 1; have gr2 := hRF 2; have gr3 := hRF 3; have gr4 := hRF 4; have gr5 := hRF 5; have gr6 := hRF 6; have gr7 := hRF 7; have gr8 := hRF 8; have gr9 := hRF 9; have gr10 := hRF 10; have gr11 := hRF 11; clear hRF hR  hwc hrc hcc hsc
   try clear cf13
   try clear cf14
   try clear cf15
   have cf16 := blk2 (Ext.block ((hz1.t hz3).t hz4) HB0.out.1); have cf17 := blk10 (Ext.block ((hz1.t hz3).t hz4) HB0.out.2.1); have cf18 := blk12 (Ext.block ((hz1.t hz3).t hz4) HB0.out.2.2)
   go_wp2_with fail
   rw [← HWC.out]; clear gr0 gr1 gr2 gr3 gr4 gr5 gr6 gr7 gr8 gr9 gr10 gr11 cf16 cf17 cf18; have cc := blk12 HRC.out; refine bodyPost_ret (v := .tuple #[.agg #[.int .i64 (2), .int .i64 0, .int .i64 x.kind, .int .i64 x.src, .int .i64 x.dst, (.slice oa x.path.parts.length ca), .int .i64 x.pi, .int .i64 x.hi, .int .i64 x.beta, .int .i64 x.rid, .int .i64 x.seq, (.slice ob x.pay.length cb)], .int .i64 0]) (by simp [results, Tryz.results106, go_sem, cc]) rfl ?_; rw [HE.out]; exact ⟨_, _, _, rfl, Pkt.own_mono HOW.out (fun b hb => ⟨by have h1 := hb.1; have h3 := hs1; omega, by have h2 := hb.2; omega⟩), HXX.out⟩
  ·
   try clear cf10
   try clear cf11
   try clear cf12
   have cf19 := blk2 (Ext.block (hz1.t hz3) HB0.out.1); have cf20 := blk10 (Ext.block (hz1.t hz3) HB0.out.2.1); have cf21 := blk12 (Ext.block (hz1.t hz3) HB0.out.2.2)
   go_wp2_with fail
   refine (i_CurrentAS x _ _ _ (r0.ext ((hx0.t hz1).t hz3))).mono ?_; rintro e w5 ⟨rfl, hz5⟩
   cases bc : (curAs x == r)
   ·
    have bc' : (curAs x != r) = true := by simp only [bne, bc]; rfl
    have HE := Lib.hid (fw_bad (t := t) (r := r) (now := now) (dead := dead) (inn := inn) (x := x) (by rw [bc]; simp))
    try clear cf19
    try clear cf20
    try clear cf21
    have cf22 := blk2 (Ext.block ((hz1.t hz3).t hz5) HB0.out.1); have cf23 := blk10 (Ext.block ((hz1.t hz3).t hz5) HB0.out.2.1); have cf24 := blk12 (Ext.block ((hz1.t hz3).t hz5) HB0.out.2.2)
    go_wp2_with fail
    refine (i_decide1 (2) x _ _ (w.heap.size + 1) _ (Ext.block ((hz1.t hz3).t hz5) HB0.out.2.1) (r0.ext (((hx0.t hz1).t hz3).t hz5)) (r1.ext (((hx0.t hz1).t hz3).t hz5)) hl).mono ?_; rintro e w6 ⟨u0, u1, rfl, oo, hz6⟩; obtain ⟨oa, ca, rfl, _⟩ := (Pkt.own_rd0 oo).shape; obtain ⟨ob, cb, rfl, _⟩ := (Pkt.own_rd1 oo).shape; have hs1 : w.heap.size + 1 + 1 + 1 ≤ w5.heap.size := by simpa using ((hz1.t hz3).t hz5).size
    have OX := Lib.hid oo; clear oo; have hR := Ext.block (((hz1.t hz3).t hz5).t hz6) HB0.out.2.2; obtain ⟨wc, hwc, hrc, hcc, hsc⟩ := vd_set hR (.int .i64 (2)) (.int .i64 0) (.int .i64 x.kind) (.int .i64 x.src) (.int .i64 x.dst) ((.slice oa x.path.parts.length ca)) (.int .i64 x.pi) (.int .i64 x.hi) (.int .i64 x.beta) (.int .i64 x.rid) (.int .i64 x.seq) ((.slice ob x.pay.length cb)); have HOW := Lib.hid (Pkt.own_kept OX.out hcc (fun b hb e => by have h1 := hb.1; have h2 := hb.2; have h3 := hs1; ((try simp at h1) <;> omega))); have HXX := Lib.hid (((((hx0.t hz1).t hz3).t hz5).t hz6).chg1 hcc (by omega)); have HWC := Lib.hid hwc; have HRC := Lib.hid hrc; have hsz2 : w6.heap.size = wc.heap.size := by rw [hsc]
    have hRF := fun o => fr_of hR o
    have gr0 := hRF 0; have gr1 := hRF 1; have gr2 := hRF 2; have gr3 := hRF 3; have gr4 := hRF 4; have gr5 := hRF 5; have gr6 := hRF 6; have gr7 := hRF 7; have gr8 := hRF 8; have gr9 := hRF 9; have gr10 := hRF 10; have gr11 := hRF 11; clear hRF hR  hwc hrc hcc hsc
    try clear cf22
    try clear cf23
    try clear cf24
    have cf25 := blk2 (Ext.block (((hz1.t hz3).t hz5).t hz6) HB0.out.1); have cf26 := blk10 (Ext.block (((hz1.t hz3).t hz5).t hz6) HB0.out.2.1); have cf27 := blk12 (Ext.block (((hz1.t hz3).t hz5).t hz6) HB0.out.2.2)
    go_wp2_with fail
    rw [← HWC.out]; clear gr0 gr1 gr2 gr3 gr4 gr5 gr6 gr7 gr8 gr9 gr10 gr11 cf25 cf26 cf27; have cc := blk12 HRC.out; refine bodyPost_ret (v := .tuple #[.agg #[.int .i64 (2), .int .i64 0, .int .i64 x.kind, .int .i64 x.src, .int .i64 x.dst, (.slice oa x.path.parts.length ca), .int .i64 x.pi, .int .i64 x.hi, .int .i64 x.beta, .int .i64 x.rid, .int .i64 x.seq, (.slice ob x.pay.length cb)], .int .i64 0]) (by simp [results, Tryz.results106, go_sem, cc]) rfl ?_; rw [HE.out]; exact ⟨_, _, _, rfl, Pkt.own_mono HOW.out (fun b hb => ⟨by have h1 := hb.1; have h3 := hs1; omega, by have h2 := hb.2; omega⟩), HXX.out⟩
   ·
    have bc' : (curAs x != r) = false := by simp only [bne, bc]; rfl
    have HB := Lib.hid (show (validPkt x && simple t x.path && (curAs x == r)) = true by rw [bv, bs, bc]; rfl); obtain ⟨⟨p0, p1, p2⟩, q0, q1, q2⟩ := hasHop_parts (valid_has bv); have hcp := curPart_at p2; obtain ⟨b, off, oh, ch, rfl, hc, hr⟩ := Part.at r0 x.pi.toNat p2; rw [← hcp] at hc hr; clear hcp bv bs bc
    try clear cf19
    try clear cf20
    try clear cf21
    have cf28 := blk2 (Ext.block ((hz1.t hz3).t hz5) HB0.out.1); have cf29 := blk10 (Ext.block ((hz1.t hz3).t hz5) HB0.out.2.1); have cf30 := blk12 (Ext.block ((hz1.t hz3).t hz5) HB0.out.2.2); have cf31 := Part.at_ext (((hx0.t hz1).t hz3).t hz5) hc
    go_wp2_with fail
    refine wp_region_ext (by kernel_rfl) (by kernel_rfl) ?_; have q0 := ExtW.cell (cf28.1); have q1 := ExtW.cell (cf28.2); have q2 := ExtW.cell (cf29.1); have q3 := ExtW.cell (cf29.2.1); have q4 := ExtW.cell (cf29.2.2.1); have q5 := ExtW.cell (cf29.2.2.2.1); have q6 := ExtW.cell (cf29.2.2.2.2.1); have q7 := ExtW.cell (cf29.2.2.2.2.2.1); have q8 := ExtW.cell (cf29.2.2.2.2.2.2.1); have q9 := ExtW.cell (cf29.2.2.2.2.2.2.2.1); have q10 := ExtW.cell (cf29.2.2.2.2.2.2.2.2.1); have q11 := ExtW.cell (cf29.2.2.2.2.2.2.2.2.2); have q12 := ExtW.cell (cf30.1); have q13 := ExtW.cell (cf30.2.1); have q14 := ExtW.cell (cf30.2.2.1); have q15 := ExtW.cell (cf30.2.2.2.1); have q16 := ExtW.cell (cf30.2.2.2.2.1); have q17 := ExtW.cell (cf30.2.2.2.2.2.1); have q18 := ExtW.cell (cf30.2.2.2.2.2.2.1); have q19 := ExtW.cell (cf30.2.2.2.2.2.2.2.1); have q20 := ExtW.cell (cf30.2.2.2.2.2.2.2.2.1); have q21 := ExtW.cell (cf30.2.2.2.2.2.2.2.2.2.1); have q22 := ExtW.cell (cf30.2.2.2.2.2.2.2.2.2.2.1); have q23 := ExtW.cell (cf30.2.2.2.2.2.2.2.2.2.2.2); have q24 := ExtW.cell (cf31.1); have q25 := ExtW.cell (cf31.2.1); have q26 := ExtW.cell (cf31.2.2.1); have q27 := ExtW.cell (cf31.2.2.2)
    repeat (first | go_big_quiet_step (((first | (go_at_call 157; exact Calls.ext_of (i_PartIngress (curPart x) _ x.hi _ ((hr.ext (((hx0.t hz1).t hz3).t hz5)).ext (ExtW.h _))))))) | quiet_step (((first | (go_at_call 157; exact Calls.ext_of (i_PartIngress (curPart x) _ x.hi _ ((hr.ext (((hx0.t hz1).t hz3).t hz5)).ext (ExtW.h _))))))))
    refine wpQuiet_nil ?_; intro w7 hw7; have hz7 := ExtW.out hw7; clear hw7 q0 q1 q2 q3 q4 q5 q6 q7 q8 q9 q10 q11 q12 q13 q14 q15 q16 q17 q18 q19 q20 q21 q22 q23 q24 q25 q26 q27; have HWF := Lib.hid (fun (h : ((x.pi == 0) && (x.hi == 0)) = false) => (wantIn_f h).symm); have HWT := Lib.hid (fun (h : ((x.pi == 0) && (x.hi == 0)) = true) => (wantIn_t h).symm)
    try clear cf28
    try clear cf29
    try clear cf30
    try clear cf31
    have cf32 := blk2 (Ext.block (((hz1.t hz3).t hz5).t hz7) HB0.out.1); have cf33 := blk10 (Ext.block (((hz1.t hz3).t hz5).t hz7) HB0.out.2.1); have cf34 := blk12 (Ext.block (((hz1.t hz3).t hz5).t hz7) HB0.out.2.2); have cf35 := Part.at_ext ((((hx0.t hz1).t hz3).t hz5).t hz7) hc
    go_upto_region 5 with (fail)
    go_cut [55] (fun c wx => ∃ cb : Bool, c = .bool cb ∧ Hid (((x.pi == 0) && (x.hi == 0)) = cb) ∧ w7 = wx)
    case first =>
     cases hp : (x.pi == 0)
     ·
      go_wp2_with fail
      go_meet
      exact ⟨false, rfl, Lib.hid (by rw [hp]; rfl), rfl⟩
     ·
      go_wp2_with fail
      go_meet
      exact ⟨_, rfl, Lib.hid (by rw [hp]; rfl), rfl⟩
    case rest =>
     obtain ⟨cb, rfl, HCB, hwq⟩ := hcut; subst hwq
     go_upto_if 55 with (fail)
     go_cut [15] (fun c wx => c = .int .i64 (wantIn x) ∧ w7 = wx)
     case first =>
      cases cb
      ·
       go_wp2_with fail
       go_meet
       exact ⟨congrArg (Value.int .i64) (HWF.out HCB.out), rfl⟩
      ·
       go_wp2_with fail
       go_meet
       exact ⟨congrArg (Value.int .i64) (HWT.out HCB.out), rfl⟩
     case rest =>
      obtain ⟨rfl, hwq⟩ := hcut; subst hwq
      cases bw : (inn == wantIn x)
      ·
       have bw' : (inn != wantIn x) = true := by simp only [bne, bw]; rfl
       have HE := Lib.hid (fw_in (now := now) (dead := dead) HB.out bw')
       go_wp2_with fail
       refine (i_decide1 (3) x _ _ (w.heap.size + 1) _ (Ext.block (((hz1.t hz3).t hz5).t hz7) HB0.out.2.1) (r0.ext ((((hx0.t hz1).t hz3).t hz5).t hz7)) (r1.ext ((((hx0.t hz1).t hz3).t hz5).t hz7)) hl).mono ?_; rintro e w8 ⟨u0, u1, rfl, oo, hz8⟩; obtain ⟨oa, ca, rfl, _⟩ := (Pkt.own_rd0 oo).shape; obtain ⟨ob, cb, rfl, _⟩ := (Pkt.own_rd1 oo).shape; have hs1 : w.heap.size + 1 + 1 + 1 ≤ w7.heap.size := by simpa using (((hz1.t hz3).t hz5).t hz7).size
       have OX := Lib.hid oo; clear oo; have hR := Ext.block ((((hz1.t hz3).t hz5).t hz7).t hz8) HB0.out.2.2; obtain ⟨wc, hwc, hrc, hcc, hsc⟩ := vd_set hR (.int .i64 (3)) (.int .i64 0) (.int .i64 x.kind) (.int .i64 x.src) (.int .i64 x.dst) ((.slice oa x.path.parts.length ca)) (.int .i64 x.pi) (.int .i64 x.hi) (.int .i64 x.beta) (.int .i64 x.rid) (.int .i64 x.seq) ((.slice ob x.pay.length cb)); have HOW := Lib.hid (Pkt.own_kept OX.out hcc (fun b hb e => by have h1 := hb.1; have h2 := hb.2; have h3 := hs1; ((try simp at h1) <;> omega))); have HXX := Lib.hid ((((((hx0.t hz1).t hz3).t hz5).t hz7).t hz8).chg1 hcc (by omega)); have HWC := Lib.hid hwc; have HRC := Lib.hid hrc; have hsz2 : w8.heap.size = wc.heap.size := by rw [hsc]
       have hRF := fun o => fr_of hR o
       have gr0 := hRF 0; have gr1 := hRF 1; have gr2 := hRF 2; have gr3 := hRF 3; have gr4 := hRF 4; have gr5 := hRF 5; have gr6 := hRF 6; have gr7 := hRF 7; have gr8 := hRF 8; have gr9 := hRF 9; have gr10 := hRF 10; have gr11 := hRF 11; clear hRF hR  hwc hrc hcc hsc
       try clear cf32
       try clear cf33
       try clear cf34
       try clear cf35
       have cf36 := blk2 (Ext.block ((((hz1.t hz3).t hz5).t hz7).t hz8) HB0.out.1); have cf37 := blk10 (Ext.block ((((hz1.t hz3).t hz5).t hz7).t hz8) HB0.out.2.1); have cf38 := blk12 (Ext.block ((((hz1.t hz3).t hz5).t hz7).t hz8) HB0.out.2.2); have cf39 := Part.at_ext (((((hx0.t hz1).t hz3).t hz5).t hz7).t hz8) hc
       go_wp2_with fail
       rw [← HWC.out]; clear gr0 gr1 gr2 gr3 gr4 gr5 gr6 gr7 gr8 gr9 gr10 gr11 cf36 cf37 cf38 cf39; have cc := blk12 HRC.out; refine bodyPost_ret (v := .tuple #[.agg #[.int .i64 (3), .int .i64 0, .int .i64 x.kind, .int .i64 x.src, .int .i64 x.dst, (.slice oa x.path.parts.length ca), .int .i64 x.pi, .int .i64 x.hi, .int .i64 x.beta, .int .i64 x.rid, .int .i64 x.seq, (.slice ob x.pay.length cb)], .int .i64 0]) (by simp [results, Tryz.results106, go_sem, cc]) rfl ?_; rw [HE.out]; exact ⟨_, _, _, rfl, Pkt.own_mono HOW.out (fun b hb => ⟨by have h1 := hb.1; have h3 := hs1; omega, by have h2 := hb.2; omega⟩), HXX.out⟩
      ·
       have bw' : (inn != wantIn x) = false := by simp only [bne, bw]; rfl
       have HW := Lib.hid bw'; generalize wantIn x = wi at bw'
       go_upto_region 9 with (fail)
       go_cut [16, 17] (fun v16 v17 wx => ∃ g : Nat, v16 = .pointer (some ⟨g, 0, none⟩) ∧ v17 = .int .i64 (chkCode t now x) ∧ CurSt w7.heap.size g (chkP t now x) (chkCode t now x) wx ∧ w7.heap.size ≤ g ∧ Ext w7 wx)
       case first =>
        refine planStep (.blk [0, 1, 2] (.two 3 8 (.two 4 8 (.blk [5, 6, 7] (.one 8 (.one 9 (.blk [10] .done)))) (.one 4 (.blk [5, 6, 7] (.one 9 (.blk [10] .done))))) (.one 3 (.one 4 (.blk [5, 6, 7] (.one 9 (.blk [10] .done))))))) [9] (by kernel_rfl) (by kernel_rfl) ?_; refine blkStep (fun K HK => ?_); simp only [PK]
        go_wp2_with fail
        refine HK.out _ _ ?_; clear HK K; refine twoStep ?_ ?_
        ·
         refine oneStep (fun K HK => ?_); simp only [PK]
         go_wp2_with fail
         refine (i_copyPacket x _ _ _ (r0.ext (((((hx0.t hz1).t hz3).t hz5).t hz7).trans (Ext.refl _).drew)) (r1.ext (((((hx0.t hz1).t hz3).t hz5).t hz7).trans (Ext.refl _).drew)) hl).mono ?_; rintro e wk0 ⟨a0, a1, rfl, oa, hk0⟩; obtain ⟨oa1, ca1, rfl, _⟩ := (Pkt.own_rd0 oa).shape; obtain ⟨oa2, ca2, rfl, _⟩ := (Pkt.own_rd1 oa).shape; have hcc1 := blk2 (Ext.block ((((hz1.t hz3).t hz5).t hz7).trans ((Ext.refl _).drew.trans hk0)) HB0.out.1); have hcc2 := blk10 (Ext.block ((((hz1.t hz3).t hz5).t hz7).trans ((Ext.refl _).drew.trans hk0)) HB0.out.2.1); have hcc3 := blk12 (Ext.block ((((hz1.t hz3).t hz5).t hz7).trans ((Ext.refl _).drew.trans hk0)) HB0.out.2.2); have hcc4 := Part.at_ext (((((hx0.t hz1).t hz3).t hz5).t hz7).trans ((Ext.refl _).drew.trans hk0)) hc
         go_wp2_with fail
         refine HK.out _ _ hk0 ?_; clear HK K; refine twoStep ?_ ?_
         ·
          refine oneStep (fun K HK => ?_); simp only [PK]
          go_wp2_with fail
          refine (i_checkHop t _ _ now x _ _ _ (ha.ext (((((hx0.t hz1).t hz3).t hz5).t hz7).trans ((Ext.refl _).drew.trans hk0))) (hk.ext (((((hx0.t hz1).t hz3).t hz5).t hz7).trans ((Ext.refl _).drew.trans hk0))) (Pkt.own_rd0 (Pkt.own_ext oa (Ext.refl _))) (Pkt.own_rd1 (Pkt.own_ext oa (Ext.refl _))) hl).mono ?_; rintro e wk1 ⟨u0, u1, rfl, ru0, ru1, ou, hk1⟩; obtain ⟨o0, c0, rfl, _⟩ := ru0.shape; obtain ⟨o1, c1, rfl, _⟩ := ru1.shape; have hcc5 := blk2 (Ext.block ((((hz1.t hz3).t hz5).t hz7).trans (((Ext.refl _).drew.trans hk0).trans hk1)) HB0.out.1); have hcc6 := blk10 (Ext.block ((((hz1.t hz3).t hz5).t hz7).trans (((Ext.refl _).drew.trans hk0).trans hk1)) HB0.out.2.1); have hcc7 := blk12 (Ext.block ((((hz1.t hz3).t hz5).t hz7).trans (((Ext.refl _).drew.trans hk0).trans hk1)) HB0.out.2.2); have hcc8 := Part.at_ext (((((hx0.t hz1).t hz3).t hz5).t hz7).trans (((Ext.refl _).drew.trans hk0).trans hk1)) hc
          go_wp2_with fail
          refine HK.out _ _ hk1 ?_; clear HK K; refine blkStep (fun K HK => ?_); simp only [PK]
          go_wp2_with fail
          refine HK.out _ _ ?_; clear HK K; refine oneStep (fun K HK => ?_); simp only [PK]
          go_wp2_with fail
          refine HK.out _ _ ((Ext.refl _).alloc _) ?_; clear HK K; refine badStep (by kernel_rfl) (fun K HK => ?_); simp only [PK]
          go_wp2_with fail
          refine HK.out _ _ ?_; clear HK K; refine blkStep (fun K HK => ?_); simp only [PK]
          go_wp2_with fail
          refine HK.out _ _ ?_; clear HK K; refine doneStep (by kernel_rfl) ?_
          go_wp2_with fail
          go_meet
          exact ⟨_, rfl, rfl, ⟨o0, _, c0, o1, _, c1, _, blk_new _ _, fun h => Pkt.own_ext (ou h) ((Ext.refl _).alloc _), fun b hb => ⟨Nat.le_trans ((Ext.refl _).drew.trans hk0).size hb.1, Nat.lt_of_lt_of_le hb.2 ((Ext.refl _).alloc _).size, fun e => by rw [e] at hb; exact absurd hb.2 (Nat.lt_irrefl _)⟩⟩, (((Ext.refl _).drew.trans hk0).trans hk1).size, (((Ext.refl _).drew.trans hk0).trans hk1).alloc _⟩
         ·
          have hba := blk_new wk0 (.cells #[.int .i64 0, .int .i64 0, .int .i64 0, .slice none 0 0, .int .i64 0, .int .i64 0, .int .i64 0, .int .i64 0, .int .i64 0, .slice none 0 0] 58); have HBA := Lib.hid hba; clear hba; refine oneStep (fun K HK => ?_); simp only [PK]
          go_wp2_with fail
          refine HK.out _ _ ((Ext.refl _).alloc _) ?_; clear HK K; refine oneStep (fun K HK => ?_); simp only [PK]
          go_wp2_with fail
          refine (i_checkHop t _ _ now x _ _ _ (ha.ext (((((hx0.t hz1).t hz3).t hz5).t hz7).trans (((Ext.refl _).drew.trans hk0).trans ((Ext.refl _).alloc _)))) (hk.ext (((((hx0.t hz1).t hz3).t hz5).t hz7).trans (((Ext.refl _).drew.trans hk0).trans ((Ext.refl _).alloc _)))) (Pkt.own_rd0 (Pkt.own_ext oa ((Ext.refl _).alloc _))) (Pkt.own_rd1 (Pkt.own_ext oa ((Ext.refl _).alloc _))) hl).mono ?_; rintro e wk1 ⟨u0, u1, rfl, ru0, ru1, ou, hk1⟩; obtain ⟨o0, c0, rfl, _⟩ := ru0.shape; obtain ⟨o1, c1, rfl, _⟩ := ru1.shape; have hcc9 := blk2 (Ext.block ((((hz1.t hz3).t hz5).t hz7).trans ((((Ext.refl _).drew.trans hk0).trans ((Ext.refl _).alloc _)).trans hk1)) HB0.out.1); have hcc10 := blk10 (Ext.block ((((hz1.t hz3).t hz5).t hz7).trans ((((Ext.refl _).drew.trans hk0).trans ((Ext.refl _).alloc _)).trans hk1)) HB0.out.2.1); have hcc11 := blk12 (Ext.block ((((hz1.t hz3).t hz5).t hz7).trans ((((Ext.refl _).drew.trans hk0).trans ((Ext.refl _).alloc _)).trans hk1)) HB0.out.2.2); have hcc12 := Part.at_ext (((((hx0.t hz1).t hz3).t hz5).t hz7).trans ((((Ext.refl _).drew.trans hk0).trans ((Ext.refl _).alloc _)).trans hk1)) hc
          go_wp2_with fail
          refine HK.out _ _ hk1 ?_; clear HK K; refine blkStep (fun K HK => ?_); simp only [PK]
          go_wp2_with fail
          refine HK.out _ _ ?_; clear HK K; have hbs := Ext.block hk1 HBA.out; have hcs := blk10 hbs; have hfs0 := fr_of hbs 0; have hfs1 := fr_of hbs 1; have hfs2 := fr_of hbs 2; have hfs3 := fr_of hbs 3; have hfs4 := fr_of hbs 4; have hfs5 := fr_of hbs 5; have hfs6 := fr_of hbs 6; have hfs7 := fr_of hbs 7; have hfs8 := fr_of hbs 8; have hfs9 := fr_of hbs 9; have HBS := Lib.hid hbs; clear hbs; refine badStep (by kernel_rfl) (fun K HK => ?_); simp only [PK]
          go_wp2_with fail
          refine HK.out _ _ ?_; clear HK K; refine blkStep (fun K HK => ?_); simp only [PK]
          go_wp2_with fail
          refine HK.out _ _ ?_; clear HK K; refine doneStep (by kernel_rfl) ?_
          go_wp2_with fail
          go_meet
          obtain ⟨wq, hwq, hbq, hcq, hsq⟩ := pk_set HBS.out (.int .i64 (chkP t now x).kind) (.int .i64 (chkP t now x).src) (.int .i64 (chkP t now x).dst) ((.slice o0 (chkP t now x).path.parts.length c0)) (.int .i64 (chkP t now x).pi) (.int .i64 (chkP t now x).hi) (.int .i64 (chkP t now x).beta) (.int .i64 (chkP t now x).rid) (.int .i64 (chkP t now x).seq) ((.slice o1 (chkP t now x).pay.length c1)); rw [← hwq]; exact ⟨_, rfl, rfl, ⟨o0, _, c0, o1, _, c1, _, hbq, fun h => Pkt.own_kept (Pkt.own_ext (ou h) (Ext.refl _)) hcq (fun b (hb : rng _ _ b) (e : b = _) => absurd hb.1 (by rw [e]; exact Nat.not_le.2 (Nat.lt_of_lt_of_le (blk_lt HBA.out) (Ext.refl _).size))), fun b hb => ⟨Nat.le_trans (((Ext.refl _).drew.trans hk0).trans ((Ext.refl _).alloc _)).size hb.1, by rw [hsq]; exact Nat.lt_of_lt_of_le hb.2 (Ext.refl _).size, (fun b (hb : rng _ _ b) (e : b = _) => absurd hb.1 (by rw [e]; exact Nat.not_le.2 (Nat.lt_of_lt_of_le (blk_lt HBA.out) (Ext.refl _).size))) b hb⟩⟩, ((Ext.refl _).drew.trans hk0).size, ((((Ext.refl _).drew.trans hk0).trans ((Ext.refl _).alloc _)).trans hk1).chg1 hcq ((Ext.refl _).drew.trans hk0).size⟩
        ·
         have hba := blk_new w7 (.cells #[.int .i64 0, .int .i64 0, .int .i64 0, .slice none 0 0, .int .i64 0, .int .i64 0, .int .i64 0, .int .i64 0, .int .i64 0, .slice none 0 0] 58); have HBA := Lib.hid hba; clear hba; refine oneStep (fun K HK => ?_); simp only [PK]
         go_wp2_with fail
         refine HK.out _ _ ((Ext.refl _).alloc _) ?_; clear HK K; refine oneStep (fun K HK => ?_); simp only [PK]
         go_wp2_with fail
         refine (i_copyPacket x _ _ _ (r0.ext (((((hx0.t hz1).t hz3).t hz5).t hz7).trans ((Ext.refl _).drew.t ((Ext.refl _).alloc _)))) (r1.ext (((((hx0.t hz1).t hz3).t hz5).t hz7).trans ((Ext.refl _).drew.t ((Ext.refl _).alloc _)))) hl).mono ?_; rintro e wk0 ⟨a0, a1, rfl, oa, hk0⟩; obtain ⟨oa1, ca1, rfl, _⟩ := (Pkt.own_rd0 oa).shape; obtain ⟨oa2, ca2, rfl, _⟩ := (Pkt.own_rd1 oa).shape; have hcc13 := blk2 (Ext.block ((((hz1.t hz3).t hz5).t hz7).trans (((Ext.refl _).drew.t ((Ext.refl _).alloc _)).trans hk0)) HB0.out.1); have hcc14 := blk10 (Ext.block ((((hz1.t hz3).t hz5).t hz7).trans (((Ext.refl _).drew.t ((Ext.refl _).alloc _)).trans hk0)) HB0.out.2.1); have hcc15 := blk12 (Ext.block ((((hz1.t hz3).t hz5).t hz7).trans (((Ext.refl _).drew.t ((Ext.refl _).alloc _)).trans hk0)) HB0.out.2.2); have hcc16 := Part.at_ext (((((hx0.t hz1).t hz3).t hz5).t hz7).trans (((Ext.refl _).drew.t ((Ext.refl _).alloc _)).trans hk0)) hc
         go_wp2_with fail
         refine HK.out _ _ hk0 ?_; clear HK K; refine oneStep (fun K HK => ?_); simp only [PK]
         go_wp2_with fail
         refine (i_checkHop t _ _ now x _ _ _ (ha.ext (((((hx0.t hz1).t hz3).t hz5).t hz7).trans (((Ext.refl _).drew.t ((Ext.refl _).alloc _)).trans hk0))) (hk.ext (((((hx0.t hz1).t hz3).t hz5).t hz7).trans (((Ext.refl _).drew.t ((Ext.refl _).alloc _)).trans hk0))) (Pkt.own_rd0 (Pkt.own_ext oa (Ext.refl _))) (Pkt.own_rd1 (Pkt.own_ext oa (Ext.refl _))) hl).mono ?_; rintro e wk1 ⟨u0, u1, rfl, ru0, ru1, ou, hk1⟩; obtain ⟨o0, c0, rfl, _⟩ := ru0.shape; obtain ⟨o1, c1, rfl, _⟩ := ru1.shape; have hcc17 := blk2 (Ext.block ((((hz1.t hz3).t hz5).t hz7).trans ((((Ext.refl _).drew.t ((Ext.refl _).alloc _)).trans hk0).trans hk1)) HB0.out.1); have hcc18 := blk10 (Ext.block ((((hz1.t hz3).t hz5).t hz7).trans ((((Ext.refl _).drew.t ((Ext.refl _).alloc _)).trans hk0).trans hk1)) HB0.out.2.1); have hcc19 := blk12 (Ext.block ((((hz1.t hz3).t hz5).t hz7).trans ((((Ext.refl _).drew.t ((Ext.refl _).alloc _)).trans hk0).trans hk1)) HB0.out.2.2); have hcc20 := Part.at_ext (((((hx0.t hz1).t hz3).t hz5).t hz7).trans ((((Ext.refl _).drew.t ((Ext.refl _).alloc _)).trans hk0).trans hk1)) hc
         go_wp2_with fail
         refine HK.out _ _ hk1 ?_; clear HK K; refine blkStep (fun K HK => ?_); simp only [PK]
         go_wp2_with fail
         refine HK.out _ _ ?_; clear HK K; have hbs := Ext.block (hk0.trans hk1) HBA.out; have hcs := blk10 hbs; have hfs0 := fr_of hbs 0; have hfs1 := fr_of hbs 1; have hfs2 := fr_of hbs 2; have hfs3 := fr_of hbs 3; have hfs4 := fr_of hbs 4; have hfs5 := fr_of hbs 5; have hfs6 := fr_of hbs 6; have hfs7 := fr_of hbs 7; have hfs8 := fr_of hbs 8; have hfs9 := fr_of hbs 9; have HBS := Lib.hid hbs; clear hbs; refine badStep (by kernel_rfl) (fun K HK => ?_); simp only [PK]
         go_wp2_with fail
         refine HK.out _ _ ?_; clear HK K; refine blkStep (fun K HK => ?_); simp only [PK]
         go_wp2_with fail
         refine HK.out _ _ ?_; clear HK K; refine doneStep (by kernel_rfl) ?_
         go_wp2_with fail
         go_meet
         obtain ⟨wq, hwq, hbq, hcq, hsq⟩ := pk_set HBS.out (.int .i64 (chkP t now x).kind) (.int .i64 (chkP t now x).src) (.int .i64 (chkP t now x).dst) ((.slice o0 (chkP t now x).path.parts.length c0)) (.int .i64 (chkP t now x).pi) (.int .i64 (chkP t now x).hi) (.int .i64 (chkP t now x).beta) (.int .i64 (chkP t now x).rid) (.int .i64 (chkP t now x).seq) ((.slice o1 (chkP t now x).pay.length c1)); rw [← hwq]; exact ⟨_, rfl, rfl, ⟨o0, _, c0, o1, _, c1, _, hbq, fun h => Pkt.own_kept (Pkt.own_ext (ou h) (Ext.refl _)) hcq (fun b (hb : rng _ _ b) (e : b = _) => absurd hb.1 (by rw [e]; exact Nat.not_le.2 (Nat.lt_of_lt_of_le (blk_lt HBA.out) hk0.size))), fun b hb => ⟨Nat.le_trans (((Ext.refl _).drew.t ((Ext.refl _).alloc _)).trans hk0).size hb.1, by rw [hsq]; exact Nat.lt_of_lt_of_le hb.2 (Ext.refl _).size, (fun b (hb : rng _ _ b) (e : b = _) => absurd hb.1 (by rw [e]; exact Nat.not_le.2 (Nat.lt_of_lt_of_le (blk_lt HBA.out) hk0.size))) b hb⟩⟩, (Ext.refl _).drew.size, ((((Ext.refl _).drew.t ((Ext.refl _).alloc _)).trans hk0).trans hk1).chg1 hcq (Ext.refl _).drew.size⟩
       case rest =>
        obtain ⟨g, rfl, rfl, hst, hge, hxc⟩ := hcut; have HST0 := Lib.hid hst; clear hst
        try clear cf32
        try clear cf33
        try clear cf34
        try clear cf35
        go_wp2_with fail
        go_loopg [17] x.path.parts.length (fun gk c wr => ∃ y : Pkt, c = .int .i64 (chkCode t now y) ∧ CurSt w7.heap.size g (chkP t now y) (chkCode t now y) wr ∧ Hid (chkAll t now gk y = chkAll t now x.path.parts.length x) ∧ Hid (y.path = x.path) ∧ Hid (y.size = x.size) ∧ x.path.parts.length ≤ gk + y.pi.toNat ∧ Ext w7 wr)
        case atStart => exact ⟨x, rfl, HST0.out, Lib.hid rfl, Lib.hid rfl, Lib.hid rfl, Nat.le_add_right _ _, hxc⟩
        case round =>
         clear HST0 hxc; obtain ⟨y, rfl, hst, HRL, HP, HS, hN, hx⟩ := hrel; obtain ⟨o0, n0, c0, o1, n1, c1, S0, hg, hown, hS⟩ := hst; have HGB := Lib.hid hg; clear hg
         by_cases k0 : chkCode t now y = 0
         ·
          obtain ⟨hhz, hcz⟩ := code_has k0; rw [chkP_0 k0] at HGB hown; have HZP := Lib.hid ((verCur_path t y).trans HP.out); have HZS := Lib.hid ((verCur_size t y).trans HS.out); have HZI := Lib.hid (verCur_pi t y); have HGO := Lib.hid (fun (f : Nat) => chk_go (f := f) k0); have HSTP := Lib.hid (fun (h : (lastOf (verCur t y) && !(atLast (verCur t y))) = false) => chk_stop (f := gk) (t := t) (now := now) (x := y) (by rw [k0]; simpa using h)); rw [k0] at hown; generalize hz : verCur t y = z at *; have HZ := Lib.hid hz; clear hz; have oz := hown rfl; have OZ := Lib.hid oz; obtain ⟨_, _, he0, _⟩ := (Pkt.own_rd0 oz).shape; obtain ⟨_, _, he1, _⟩ := (Pkt.own_rd1 oz).shape
          cases he0
          cases he1
          have rz0 := Pkt.own_rd0 oz; have rz1 := Pkt.own_rd1 oz; clear oz hown; rw [k0]; have K0 := Lib.hid k0; clear k0; obtain ⟨⟨z0, z1, z2⟩, y0, y1, y2⟩ := hasHop_parts hhz; have hlz : z.size ≤ 1048576 := by rw [HZS.out]; exact hl
          have HCH : Hid (chkAll t now x.path.parts.length x = (0, z) ↔ chkAll t now gk y = (0, z)) := Lib.hid (by rw [HRL.out]); have cf40 := blk2 (Ext.block ((((hz1.t hz3).t hz5).t hz7).t hx) HB0.out.1); have cf41 := blk10 (Ext.block ((((hz1.t hz3).t hz5).t hz7).t hx) HB0.out.2.1); have cf42 := blk12 (Ext.block ((((hz1.t hz3).t hz5).t hz7).t hx) HB0.out.2.2); have cf43 := blk10 HGB.out; have cf44 := Part.at_ext (((((hx0.t hz1).t hz3).t hz5).t hz7).t hx) hc
          go_wp2_with fail
          refine (i_lastOfPart z _ _ _ (rz0.ext (Ext.refl _)) z0 z2).mono ?_; rintro e w9 ⟨rfl, hz9⟩
          cases bl : lastOf z
          ·
           have bal : atLast z = false := by unfold atLast; rw [bl]; simp
           have HC : Hid (chkAll t now x.path.parts.length x = (0, z)) := Lib.hid (HCH.out.2 ((HSTP.out (by rw [bl]; rfl)).trans (by rw [K0.out]))); have HF := Lib.hid (fw_out (r := r) (dead := dead) (inn := inn) HB.out HW.out HC.out bal)
           try clear cf40
           try clear cf41
           try clear cf42
           try clear cf43
           try clear cf44
           have cf45 := blk2 (Ext.block (((((hz1.t hz3).t hz5).t hz7).t hx).t hz9) HB0.out.1); have cf46 := blk10 (Ext.block (((((hz1.t hz3).t hz5).t hz7).t hx).t hz9) HB0.out.2.1); have cf47 := blk12 (Ext.block (((((hz1.t hz3).t hz5).t hz7).t hx).t hz9) HB0.out.2.2); have cf48 := blk10 (Ext.block hz9 HGB.out); have cf49 := Part.at_ext ((((((hx0.t hz1).t hz3).t hz5).t hz7).t hx).t hz9) hc
           go_wp2_with fail
           refine (i_AtLastHop z _ _ _ (rz0.ext hz9)).mono ?_; rintro e w10 ⟨rfl, hz10⟩; rw [bal]; have hcz2 := curPart_at z2; obtain ⟨bz, offz, ohz, chz, rfl, hcc, hrc⟩ := Part.at rz0 z.pi.toNat z2; rw [← hcz2] at hcc hrc; clear hcz2
           try clear cf45
           try clear cf46
           try clear cf47
           try clear cf48
           try clear cf49
           have cf50 := blk2 (Ext.block ((((((hz1.t hz3).t hz5).t hz7).t hx).t hz9).t hz10) HB0.out.1); have cf51 := blk10 (Ext.block ((((((hz1.t hz3).t hz5).t hz7).t hx).t hz9).t hz10) HB0.out.2.1); have cf52 := blk12 (Ext.block ((((((hz1.t hz3).t hz5).t hz7).t hx).t hz9).t hz10) HB0.out.2.2); have cf53 := blk10 (Ext.block (hz9.t hz10) HGB.out); have cf54 := Part.at_ext (((((((hx0.t hz1).t hz3).t hz5).t hz7).t hx).t hz9).t hz10) hc; have cf55 := Part.at_ext (hz9.t hz10) hcc
           go_wp2_with fail
           refine wp_region_ext (by kernel_rfl) (by kernel_rfl) ?_; have q0 := ExtW.cell (cf50.1); have q1 := ExtW.cell (cf50.2); have q2 := ExtW.cell (cf51.1); have q3 := ExtW.cell (cf51.2.1); have q4 := ExtW.cell (cf51.2.2.1); have q5 := ExtW.cell (cf51.2.2.2.1); have q6 := ExtW.cell (cf51.2.2.2.2.1); have q7 := ExtW.cell (cf51.2.2.2.2.2.1); have q8 := ExtW.cell (cf51.2.2.2.2.2.2.1); have q9 := ExtW.cell (cf51.2.2.2.2.2.2.2.1); have q10 := ExtW.cell (cf51.2.2.2.2.2.2.2.2.1); have q11 := ExtW.cell (cf51.2.2.2.2.2.2.2.2.2); have q12 := ExtW.cell (cf52.1); have q13 := ExtW.cell (cf52.2.1); have q14 := ExtW.cell (cf52.2.2.1); have q15 := ExtW.cell (cf52.2.2.2.1); have q16 := ExtW.cell (cf52.2.2.2.2.1); have q17 := ExtW.cell (cf52.2.2.2.2.2.1); have q18 := ExtW.cell (cf52.2.2.2.2.2.2.1); have q19 := ExtW.cell (cf52.2.2.2.2.2.2.2.1); have q20 := ExtW.cell (cf52.2.2.2.2.2.2.2.2.1); have q21 := ExtW.cell (cf52.2.2.2.2.2.2.2.2.2.1); have q22 := ExtW.cell (cf52.2.2.2.2.2.2.2.2.2.2.1); have q23 := ExtW.cell (cf52.2.2.2.2.2.2.2.2.2.2.2); have q24 := ExtW.cell (cf53.1); have q25 := ExtW.cell (cf53.2.1); have q26 := ExtW.cell (cf53.2.2.1); have q27 := ExtW.cell (cf53.2.2.2.1); have q28 := ExtW.cell (cf53.2.2.2.2.1); have q29 := ExtW.cell (cf53.2.2.2.2.2.1); have q30 := ExtW.cell (cf53.2.2.2.2.2.2.1); have q31 := ExtW.cell (cf53.2.2.2.2.2.2.2.1); have q32 := ExtW.cell (cf53.2.2.2.2.2.2.2.2.1); have q33 := ExtW.cell (cf53.2.2.2.2.2.2.2.2.2); have q34 := ExtW.cell (cf54.1)
           have q35 := ExtW.cell (cf54.2.1); have q36 := ExtW.cell (cf54.2.2.1); have q37 := ExtW.cell (cf54.2.2.2); have q38 := ExtW.cell (cf55.1); have q39 := ExtW.cell (cf55.2.1); have q40 := ExtW.cell (cf55.2.2.1); have q41 := ExtW.cell (cf55.2.2.2)
           repeat (first | go_big_quiet_step (((first | (go_at_call 156; exact Calls.ext_of (i_PartEgress (curPart z) _ z.hi _ ((hrc.ext (hz9.t hz10)).ext (ExtW.h _))))))) | quiet_step (((first | (go_at_call 156; exact Calls.ext_of (i_PartEgress (curPart z) _ z.hi _ ((hrc.ext (hz9.t hz10)).ext (ExtW.h _))))))))
           refine wpQuiet_nil ?_; intro w11 hw11; have hz11 := ExtW.out hw11; clear hw11 q0 q1 q2 q3 q4 q5 q6 q7 q8 q9 q10 q11 q12 q13 q14 q15 q16 q17 q18 q19 q20 q21 q22 q23 q24 q25 q26 q27 q28 q29 q30 q31 q32 q33 q34 q35 q36 q37 q38 q39 q40 q41; generalize heg : partEg (curPart z) z.hi = eg at *; have HEG := Lib.hid heg; clear heg
           try clear cf50
           try clear cf51
           try clear cf52
           try clear cf53
           try clear cf54
           try clear cf55
           have cf56 := blk2 (Ext.block (((((((hz1.t hz3).t hz5).t hz7).t hx).t hz9).t hz10).t hz11) HB0.out.1); have cf57 := blk10 (Ext.block (((((((hz1.t hz3).t hz5).t hz7).t hx).t hz9).t hz10).t hz11) HB0.out.2.1); have cf58 := blk12 (Ext.block (((((((hz1.t hz3).t hz5).t hz7).t hx).t hz9).t hz10).t hz11) HB0.out.2.2); have cf59 := blk10 (Ext.block ((hz9.t hz10).t hz11) HGB.out); have cf60 := Part.at_ext ((((((((hx0.t hz1).t hz3).t hz5).t hz7).t hx).t hz9).t hz10).t hz11) hc; have cf61 := Part.at_ext ((hz9.t hz10).t hz11) hcc
           go_wp2_with fail
           refine (i_StepAllowed t _ _ ⟨r, inn, eg⟩ _ (hk.ext ((((((((hx0.t hz1).t hz3).t hz5).t hz7).t hx).t hz9).t hz10).t hz11))).mono ?_; rintro e w12 ⟨rfl, hz12⟩
           cases bso : stepOk t ⟨r, inn, eg⟩
           ·
            have HE := Lib.hid (HF.out.trans (by rw [bso]))
            try clear cf56
            try clear cf57
            try clear cf58
            try clear cf59
            try clear cf60
            try clear cf61
            have cf62 := blk2 (Ext.block ((((((((hz1.t hz3).t hz5).t hz7).t hx).t hz9).t hz10).t hz11).t hz12) HB0.out.1); have cf63 := blk10 (Ext.block ((((((((hz1.t hz3).t hz5).t hz7).t hx).t hz9).t hz10).t hz11).t hz12) HB0.out.2.1); have cf64 := blk12 (Ext.block ((((((((hz1.t hz3).t hz5).t hz7).t hx).t hz9).t hz10).t hz11).t hz12) HB0.out.2.2); have cf65 := blk10 (Ext.block (((hz9.t hz10).t hz11).t hz12) HGB.out); have cf66 := Part.at_ext (((((((((hx0.t hz1).t hz3).t hz5).t hz7).t hx).t hz9).t hz10).t hz11).t hz12) hc; have cf67 := Part.at_ext (((hz9.t hz10).t hz11).t hz12) hcc
            go_wp2_with fail
            refine (i_decide1 (6) x _ _ (w.heap.size + 1) _ (Ext.block ((((((((hz1.t hz3).t hz5).t hz7).t hx).t hz9).t hz10).t hz11).t hz12) HB0.out.2.1) (r0.ext (((((((((hx0.t hz1).t hz3).t hz5).t hz7).t hx).t hz9).t hz10).t hz11).t hz12)) (r1.ext (((((((((hx0.t hz1).t hz3).t hz5).t hz7).t hx).t hz9).t hz10).t hz11).t hz12)) hl).mono ?_; rintro e w13 ⟨u0, u1, rfl, oo, hz13⟩; obtain ⟨oa, ca, rfl, _⟩ := (Pkt.own_rd0 oo).shape; obtain ⟨ob, cb, rfl, _⟩ := (Pkt.own_rd1 oo).shape; have hs1 : w.heap.size + 1 + 1 + 1 ≤ w12.heap.size := by simpa using ((((((((hz1.t hz3).t hz5).t hz7).t hx).t hz9).t hz10).t hz11).t hz12).size
            have OX := Lib.hid oo; clear oo; have hR := Ext.block (((((((((hz1.t hz3).t hz5).t hz7).t hx).t hz9).t hz10).t hz11).t hz12).t hz13) HB0.out.2.2; obtain ⟨wc, hwc, hrc, hcc, hsc⟩ := vd_set hR (.int .i64 (6)) (.int .i64 0) (.int .i64 x.kind) (.int .i64 x.src) (.int .i64 x.dst) ((.slice oa x.path.parts.length ca)) (.int .i64 x.pi) (.int .i64 x.hi) (.int .i64 x.beta) (.int .i64 x.rid) (.int .i64 x.seq) ((.slice ob x.pay.length cb)); have HOW := Lib.hid (Pkt.own_kept OX.out hcc (fun b hb e => by have h1 := hb.1; have h2 := hb.2; have h3 := hs1; ((try simp at h1) <;> omega))); have HXX := Lib.hid (((((((((((hx0.t hz1).t hz3).t hz5).t hz7).t hx).t hz9).t hz10).t hz11).t hz12).t hz13).chg1 hcc (by omega)); have HWC := Lib.hid hwc; have HRC := Lib.hid hrc; have hsz2 : w13.heap.size = wc.heap.size := by rw [hsc]
            have hRF := fun o => fr_of hR o
            have gr0 := hRF 0; have gr1 := hRF 1; have gr2 := hRF 2; have gr3 := hRF 3; have gr4 := hRF 4; have gr5 := hRF 5; have gr6 := hRF 6; have gr7 := hRF 7; have gr8 := hRF 8; have gr9 := hRF 9; have gr10 := hRF 10; have gr11 := hRF 11; clear hRF hR  hwc hrc hcc hsc
            try clear cf62
            try clear cf63
            try clear cf64
            try clear cf65
            try clear cf66
            try clear cf67
            have cf68 := blk2 (Ext.block (((((((((hz1.t hz3).t hz5).t hz7).t hx).t hz9).t hz10).t hz11).t hz12).t hz13) HB0.out.1); have cf69 := blk10 (Ext.block (((((((((hz1.t hz3).t hz5).t hz7).t hx).t hz9).t hz10).t hz11).t hz12).t hz13) HB0.out.2.1); have cf70 := blk12 (Ext.block (((((((((hz1.t hz3).t hz5).t hz7).t hx).t hz9).t hz10).t hz11).t hz12).t hz13) HB0.out.2.2); have cf71 := blk10 (Ext.block ((((hz9.t hz10).t hz11).t hz12).t hz13) HGB.out); have cf72 := Part.at_ext ((((((((((hx0.t hz1).t hz3).t hz5).t hz7).t hx).t hz9).t hz10).t hz11).t hz12).t hz13) hc; have cf73 := Part.at_ext ((((hz9.t hz10).t hz11).t hz12).t hz13) hcc
            go_wp2_with fail
            rw [← HWC.out]; clear gr0 gr1 gr2 gr3 gr4 gr5 gr6 gr7 gr8 gr9 gr10 gr11 cf68 cf69 cf70 cf71 cf72 cf73; have cc := blk12 HRC.out; refine bodyPost_ret (v := .tuple #[.agg #[.int .i64 (6), .int .i64 0, .int .i64 x.kind, .int .i64 x.src, .int .i64 x.dst, (.slice oa x.path.parts.length ca), .int .i64 x.pi, .int .i64 x.hi, .int .i64 x.beta, .int .i64 x.rid, .int .i64 x.seq, (.slice ob x.pay.length cb)], .int .i64 0]) (by simp [results, Tryz.results106, go_sem, cc]) rfl ?_; rw [HE.out]; exact ⟨_, _, _, rfl, Pkt.own_mono HOW.out (fun b hb => ⟨by have h1 := hb.1; have h3 := hs1; omega, by have h2 := hb.2; omega⟩), HXX.out⟩
           ·
            try clear cf56
            try clear cf57
            try clear cf58
            try clear cf59
            try clear cf60
            try clear cf61
            have cf74 := blk2 (Ext.block ((((((((hz1.t hz3).t hz5).t hz7).t hx).t hz9).t hz10).t hz11).t hz12) HB0.out.1); have cf75 := blk10 (Ext.block ((((((((hz1.t hz3).t hz5).t hz7).t hx).t hz9).t hz10).t hz11).t hz12) HB0.out.2.1); have cf76 := blk12 (Ext.block ((((((((hz1.t hz3).t hz5).t hz7).t hx).t hz9).t hz10).t hz11).t hz12) HB0.out.2.2); have cf77 := blk10 (Ext.block (((hz9.t hz10).t hz11).t hz12) HGB.out); have cf78 := Part.at_ext (((((((((hx0.t hz1).t hz3).t hz5).t hz7).t hx).t hz9).t hz10).t hz11).t hz12) hc; have cf79 := Part.at_ext (((hz9.t hz10).t hz11).t hz12) hcc
            go_wp2_with fail
            refine (i_Contains _ _ _).mono ?_; rintro e _ ⟨rfl, rfl⟩
            cases bin : inSet dead eg
            ·
             have HE := Lib.hid (HF.out.trans (by rw [bso, bin]))
             go_wp2_with fail
             refine (i_AdvanceHop z _ _ _ (rz0.ext (((hz9.t hz10).t hz11).t hz12)) (rz1.ext (((hz9.t hz10).t hz11).t hz12)) hlz).mono ?_; rintro e w15 ⟨u0, u1, rfl, oa, hz15⟩; obtain ⟨ox, cx, rfl, _⟩ := (Pkt.own_rd0 oa).shape; obtain ⟨oxx, cxx, rfl, _⟩ := (Pkt.own_rd1 oa).shape; have hs1 : w.heap.size + 1 + 1 + 1 ≤ w12.heap.size := by simpa using ((((((((hz1.t hz3).t hz5).t hz7).t hx).t hz9).t hz10).t hz11).t hz12).size
             have OX := Lib.hid oa; clear oa; have hR := Ext.block (((((((((hz1.t hz3).t hz5).t hz7).t hx).t hz9).t hz10).t hz11).t hz12).t hz15) HB0.out.2.2; obtain ⟨wc, hwc, hrc, hcc, hsc⟩ := vd_set hR (.int .i64 0) (.int .i64 eg) (.int .i64 (advance z).kind) (.int .i64 (advance z).src) (.int .i64 (advance z).dst) ((.slice ox (advance z).path.parts.length cx)) (.int .i64 (advance z).pi) (.int .i64 (advance z).hi) (.int .i64 (advance z).beta) (.int .i64 (advance z).rid) (.int .i64 (advance z).seq) ((.slice oxx (advance z).pay.length cxx)); have HOW := Lib.hid (Pkt.own_kept OX.out hcc (fun b hb e => by have h1 := hb.1; have h2 := hb.2; have h3 := hs1; ((try simp at h1) <;> omega))); have HXX := Lib.hid (((((((((((hx0.t hz1).t hz3).t hz5).t hz7).t hx).t hz9).t hz10).t hz11).t hz12).t hz15).chg1 hcc (by omega)); have HWC := Lib.hid hwc; have HRC := Lib.hid hrc; have hsz2 : w15.heap.size = wc.heap.size := by rw [hsc]
             have hRF := fun o => fr_of hR o
             have gr0 := hRF 0; have gr1 := hRF 1; have gr2 := hRF 2; have gr3 := hRF 3; have gr4 := hRF 4; have gr5 := hRF 5; have gr6 := hRF 6; have gr7 := hRF 7; have gr8 := hRF 8; have gr9 := hRF 9; have gr10 := hRF 10; have gr11 := hRF 11; clear hRF hR  hwc hrc hcc hsc
             try clear cf74
             try clear cf75
             try clear cf76
             try clear cf77
             try clear cf78
             try clear cf79
             have cf80 := blk2 (Ext.block (((((((((hz1.t hz3).t hz5).t hz7).t hx).t hz9).t hz10).t hz11).t hz12).t hz15) HB0.out.1); have cf81 := blk10 (Ext.block (((((((((hz1.t hz3).t hz5).t hz7).t hx).t hz9).t hz10).t hz11).t hz12).t hz15) HB0.out.2.1); have cf82 := blk12 (Ext.block (((((((((hz1.t hz3).t hz5).t hz7).t hx).t hz9).t hz10).t hz11).t hz12).t hz15) HB0.out.2.2); have cf83 := blk10 (Ext.block ((((hz9.t hz10).t hz11).t hz12).t hz15) HGB.out); have cf84 := Part.at_ext ((((((((((hx0.t hz1).t hz3).t hz5).t hz7).t hx).t hz9).t hz10).t hz11).t hz12).t hz15) hc; have cf85 := Part.at_ext ((((hz9.t hz10).t hz11).t hz12).t hz15) hcc
             go_wp2_with fail
             rw [← HWC.out]; clear gr0 gr1 gr2 gr3 gr4 gr5 gr6 gr7 gr8 gr9 gr10 gr11 cf80 cf81 cf82 cf83 cf84 cf85; have cc := blk12 HRC.out; refine bodyPost_ret (v := .tuple #[.agg #[.int .i64 0, .int .i64 eg, .int .i64 (advance z).kind, .int .i64 (advance z).src, .int .i64 (advance z).dst, (.slice ox (advance z).path.parts.length cx), .int .i64 (advance z).pi, .int .i64 (advance z).hi, .int .i64 (advance z).beta, .int .i64 (advance z).rid, .int .i64 (advance z).seq, (.slice oxx (advance z).pay.length cxx)], .int .i64 eg]) (by simp [results, Tryz.results106, go_sem, cc]) rfl ?_; rw [HE.out]; exact ⟨_, _, _, rfl, Pkt.own_mono HOW.out (fun b hb => ⟨by have h1 := hb.1; have h3 := hs1; omega, by have h2 := hb.2; omega⟩), HXX.out⟩
            ·
             have HE := Lib.hid (HF.out.trans (by rw [bso, bin]))
             go_wp2_with fail
             refine (i_decide1 (7) x _ _ (w.heap.size + 1) _ (Ext.block ((((((((hz1.t hz3).t hz5).t hz7).t hx).t hz9).t hz10).t hz11).t hz12) HB0.out.2.1) (r0.ext (((((((((hx0.t hz1).t hz3).t hz5).t hz7).t hx).t hz9).t hz10).t hz11).t hz12)) (r1.ext (((((((((hx0.t hz1).t hz3).t hz5).t hz7).t hx).t hz9).t hz10).t hz11).t hz12)) hl).mono ?_; rintro e w16 ⟨u0, u1, rfl, oo, hz16⟩; obtain ⟨oa, ca, rfl, _⟩ := (Pkt.own_rd0 oo).shape; obtain ⟨ob, cb, rfl, _⟩ := (Pkt.own_rd1 oo).shape; have hs1 : w.heap.size + 1 + 1 + 1 ≤ w12.heap.size := by simpa using ((((((((hz1.t hz3).t hz5).t hz7).t hx).t hz9).t hz10).t hz11).t hz12).size
             have OX := Lib.hid oo; clear oo; have hR := Ext.block (((((((((hz1.t hz3).t hz5).t hz7).t hx).t hz9).t hz10).t hz11).t hz12).t hz16) HB0.out.2.2; obtain ⟨wc, hwc, hrc, hcc, hsc⟩ := vd_set hR (.int .i64 (7)) (.int .i64 0) (.int .i64 x.kind) (.int .i64 x.src) (.int .i64 x.dst) ((.slice oa x.path.parts.length ca)) (.int .i64 x.pi) (.int .i64 x.hi) (.int .i64 x.beta) (.int .i64 x.rid) (.int .i64 x.seq) ((.slice ob x.pay.length cb)); have HOW := Lib.hid (Pkt.own_kept OX.out hcc (fun b hb e => by have h1 := hb.1; have h2 := hb.2; have h3 := hs1; ((try simp at h1) <;> omega))); have HXX := Lib.hid (((((((((((hx0.t hz1).t hz3).t hz5).t hz7).t hx).t hz9).t hz10).t hz11).t hz12).t hz16).chg1 hcc (by omega)); have HWC := Lib.hid hwc; have HRC := Lib.hid hrc; have hsz2 : w16.heap.size = wc.heap.size := by rw [hsc]
             have hRF := fun o => fr_of hR o
             have gr0 := hRF 0; have gr1 := hRF 1; have gr2 := hRF 2; have gr3 := hRF 3; have gr4 := hRF 4; have gr5 := hRF 5; have gr6 := hRF 6; have gr7 := hRF 7; have gr8 := hRF 8; have gr9 := hRF 9; have gr10 := hRF 10; have gr11 := hRF 11; clear hRF hR  hwc hrc hcc hsc
             try clear cf74
             try clear cf75
             try clear cf76
             try clear cf77
             try clear cf78
             try clear cf79
             have cf86 := blk2 (Ext.block (((((((((hz1.t hz3).t hz5).t hz7).t hx).t hz9).t hz10).t hz11).t hz12).t hz16) HB0.out.1); have cf87 := blk10 (Ext.block (((((((((hz1.t hz3).t hz5).t hz7).t hx).t hz9).t hz10).t hz11).t hz12).t hz16) HB0.out.2.1); have cf88 := blk12 (Ext.block (((((((((hz1.t hz3).t hz5).t hz7).t hx).t hz9).t hz10).t hz11).t hz12).t hz16) HB0.out.2.2); have cf89 := blk10 (Ext.block ((((hz9.t hz10).t hz11).t hz12).t hz16) HGB.out); have cf90 := Part.at_ext ((((((((((hx0.t hz1).t hz3).t hz5).t hz7).t hx).t hz9).t hz10).t hz11).t hz12).t hz16) hc; have cf91 := Part.at_ext ((((hz9.t hz10).t hz11).t hz12).t hz16) hcc
             go_wp2_with fail
             rw [← HWC.out]; clear gr0 gr1 gr2 gr3 gr4 gr5 gr6 gr7 gr8 gr9 gr10 gr11 cf86 cf87 cf88 cf89 cf90 cf91; have cc := blk12 HRC.out; refine bodyPost_ret (v := .tuple #[.agg #[.int .i64 (7), .int .i64 0, .int .i64 x.kind, .int .i64 x.src, .int .i64 x.dst, (.slice oa x.path.parts.length ca), .int .i64 x.pi, .int .i64 x.hi, .int .i64 x.beta, .int .i64 x.rid, .int .i64 x.seq, (.slice ob x.pay.length cb)], .int .i64 eg]) (by simp [results, Tryz.results106, go_sem, cc]) rfl ?_; rw [HE.out]; exact ⟨_, _, _, rfl, Pkt.own_mono HOW.out (fun b hb => ⟨by have h1 := hb.1; have h3 := hs1; omega, by have h2 := hb.2; omega⟩), HXX.out⟩
          ·
           try clear cf40
           try clear cf41
           try clear cf42
           try clear cf43
           try clear cf44
           have cf92 := blk2 (Ext.block (((((hz1.t hz3).t hz5).t hz7).t hx).t hz9) HB0.out.1); have cf93 := blk10 (Ext.block (((((hz1.t hz3).t hz5).t hz7).t hx).t hz9) HB0.out.2.1); have cf94 := blk12 (Ext.block (((((hz1.t hz3).t hz5).t hz7).t hx).t hz9) HB0.out.2.2); have cf95 := blk10 (Ext.block hz9 HGB.out); have cf96 := Part.at_ext ((((((hx0.t hz1).t hz3).t hz5).t hz7).t hx).t hz9) hc
           go_wp2_with fail
           refine (i_AtLastHop z _ _ _ (rz0.ext hz9)).mono ?_; rintro e w17 ⟨rfl, hz17⟩
           cases bal : atLast z
           ·
            obtain ⟨fg, hfg⟩ : ∃ fg, gk = fg + 1 := ⟨gk - 1, by rw [HZP.out] at z2; rw [HZI.out] at z2; omega⟩
            have HGS := Lib.hid (HGO.out fg bl bal); have hap := adv_pi (show ¬ curAs z < 0 by omega) bal bl; have HAP := Lib.hid ((adv_path z).trans HZP.out); have HAS := Lib.hid ((adv_size z).trans HZS.out); have hla : (advance z).size ≤ 1048576 := by rw [HAS.out]; exact hl
            have hN2 : x.path.parts.length ≤ fg + (advance z).pi.toNat := by rw [hap, HZI.out]; omega
            have HN2 := Lib.hid hN2; clear hN2 hap; have HFG := Lib.hid hfg; clear hfg
            try clear cf92
            try clear cf93
            try clear cf94
            try clear cf95
            try clear cf96
            have cf97 := blk2 (Ext.block ((((((hz1.t hz3).t hz5).t hz7).t hx).t hz9).t hz17) HB0.out.1); have cf98 := blk10 (Ext.block ((((((hz1.t hz3).t hz5).t hz7).t hx).t hz9).t hz17) HB0.out.2.1); have cf99 := blk12 (Ext.block ((((((hz1.t hz3).t hz5).t hz7).t hx).t hz9).t hz17) HB0.out.2.2); have cf100 := blk10 (Ext.block (hz9.t hz17) HGB.out); have cf101 := Part.at_ext (((((((hx0.t hz1).t hz3).t hz5).t hz7).t hx).t hz9).t hz17) hc
            go_wp2_with fail
            refine planStep (.blk [0, 1, 2] (.one 3 (.one 4 (.blk [5, 6, 7] (.one 8 (.blk [9] .done)))))) [8] (by kernel_rfl) (by kernel_rfl) ?_
            try clear cf97
            try clear cf98
            try clear cf99
            try clear cf100
            try clear cf101
            have cf102 := blk2 (Ext.block (((((((hz1.t hz3).t hz5).t hz7).t hx).t hz9).t hz17).t ((Ext.refl _).drew)) HB0.out.1); have cf103 := blk10 (Ext.block (((((((hz1.t hz3).t hz5).t hz7).t hx).t hz9).t hz17).t ((Ext.refl _).drew)) HB0.out.2.1); have cf104 := blk12 (Ext.block (((((((hz1.t hz3).t hz5).t hz7).t hx).t hz9).t hz17).t ((Ext.refl _).drew)) HB0.out.2.2); have cf105 := blk10 (Ext.block ((hz9.t hz17).t ((Ext.refl _).drew)) HGB.out); have cf106 := Part.at_ext ((((((((hx0.t hz1).t hz3).t hz5).t hz7).t hx).t hz9).t hz17).t ((Ext.refl _).drew)) hc; refine blkStep (fun K HK => ?_); simp only [PK]
            go_wp2_with fail
            refine HK.out _ _ ?_; clear HK K; refine oneStep (fun K HK => ?_); simp only [PK]
            go_wp2_with fail
            refine (i_AdvanceHop z _ _ _ (rz0.ext ((hz9.t hz17).t ((Ext.refl _).drew))) (rz1.ext ((hz9.t hz17).t ((Ext.refl _).drew))) hlz).mono ?_; rintro e w18 ⟨b0, b1, rfl, oa, hz18⟩; obtain ⟨ob0, cb0, rfl, _⟩ := (Pkt.own_rd0 oa).shape; obtain ⟨ob1, cb1, rfl, _⟩ := (Pkt.own_rd1 oa).shape
            try clear cf102
            try clear cf103
            try clear cf104
            try clear cf105
            try clear cf106
            have cf107 := blk2 (Ext.block ((((((((hz1.t hz3).t hz5).t hz7).t hx).t hz9).t hz17).t ((Ext.refl _).drew)).t hz18) HB0.out.1); have cf108 := blk10 (Ext.block ((((((((hz1.t hz3).t hz5).t hz7).t hx).t hz9).t hz17).t ((Ext.refl _).drew)).t hz18) HB0.out.2.1); have cf109 := blk12 (Ext.block ((((((((hz1.t hz3).t hz5).t hz7).t hx).t hz9).t hz17).t ((Ext.refl _).drew)).t hz18) HB0.out.2.2); have cf110 := blk10 (Ext.block (((hz9.t hz17).t ((Ext.refl _).drew)).t hz18) HGB.out); have cf111 := Part.at_ext (((((((((hx0.t hz1).t hz3).t hz5).t hz7).t hx).t hz9).t hz17).t ((Ext.refl _).drew)).t hz18) hc
            go_wp2_with fail
            refine HK.out _ _ hz18 ?_; clear HK K; refine oneStep (fun K HK => ?_); simp only [PK]
            go_wp2_with fail
            refine (i_checkHop t _ _ now (advance z) _ _ _ (ha.ext (((((((((hx0.t hz1).t hz3).t hz5).t hz7).t hx).t hz9).t hz17).t ((Ext.refl _).drew)).t hz18)) (hk.ext (((((((((hx0.t hz1).t hz3).t hz5).t hz7).t hx).t hz9).t hz17).t ((Ext.refl _).drew)).t hz18)) (Pkt.own_rd0 oa) (Pkt.own_rd1 oa) hla).mono ?_; rintro e w19 ⟨u0, u1, rfl, ru0, ru1, ou, hz19⟩; obtain ⟨ou0, cu0, rfl, _⟩ := ru0.shape; obtain ⟨ou1, cu1, rfl, _⟩ := ru1.shape
            try clear cf107
            try clear cf108
            try clear cf109
            try clear cf110
            try clear cf111
            have cf112 := blk2 (Ext.block (((((((((hz1.t hz3).t hz5).t hz7).t hx).t hz9).t hz17).t ((Ext.refl _).drew)).t hz18).t hz19) HB0.out.1); have cf113 := blk10 (Ext.block (((((((((hz1.t hz3).t hz5).t hz7).t hx).t hz9).t hz17).t ((Ext.refl _).drew)).t hz18).t hz19) HB0.out.2.1); have cf114 := blk12 (Ext.block (((((((((hz1.t hz3).t hz5).t hz7).t hx).t hz9).t hz17).t ((Ext.refl _).drew)).t hz18).t hz19) HB0.out.2.2); have cf115 := blk10 (Ext.block ((((hz9.t hz17).t ((Ext.refl _).drew)).t hz18).t hz19) HGB.out); have cf116 := Part.at_ext ((((((((((hx0.t hz1).t hz3).t hz5).t hz7).t hx).t hz9).t hz17).t ((Ext.refl _).drew)).t hz18).t hz19) hc
            go_wp2_with fail
            refine HK.out _ _ hz19 ?_; clear HK K; refine blkStep (fun K HK => ?_); simp only [PK]
            go_wp2_with fail
            refine HK.out _ _ ?_; clear HK K; have hG := Ext.block ((((hz9.t hz17).t ((Ext.refl _).drew)).t hz18).t hz19) HGB.out; have hcg := blk10 hG; have hfg0 := fr_of hG 0; have hfg1 := fr_of hG 1; have hfg2 := fr_of hG 2; have hfg3 := fr_of hG 3; have hfg4 := fr_of hG 4; have hfg5 := fr_of hG 5; have hfg6 := fr_of hG 6; have hfg7 := fr_of hG 7; have hfg8 := fr_of hG 8; have hfg9 := fr_of hG 9; obtain ⟨wq, hwq, hbq, hcq, hsq⟩ := pk_set hG (.int .i64 (chkP t now (advance z)).kind) (.int .i64 (chkP t now (advance z)).src) (.int .i64 (chkP t now (advance z)).dst) ((.slice ou0 (chkP t now (advance z)).path.parts.length cu0)) (.int .i64 (chkP t now (advance z)).pi) (.int .i64 (chkP t now (advance z)).hi) (.int .i64 (chkP t now (advance z)).beta) (.int .i64 (chkP t now (advance z)).rid) (.int .i64 (chkP t now (advance z)).seq) ((.slice ou1 (chkP t now (advance z)).pay.length cu1)); have HWQ := Lib.hid hwq; clear hwq hG; refine badStep (by kernel_rfl) (fun K HK => ?_); simp only [PK]
            go_wp2_with fail
            refine HK.out _ _ ?_; clear HK K; refine blkStep (fun K HK => ?_); simp only [PK]
            go_wp2_with fail
            refine HK.out _ _ ?_; clear HK K; refine doneStep (by kernel_rfl) ?_; rw [← HWQ.out]
            go_wp2_with fail
            go_roundg fg
            case measure => rw [HFG.out]; exact Nat.lt_succ_self _
            case rel => exact ⟨advance z, rfl, ⟨ou0, _, cu0, ou1, _, cu1, _, hbq, fun h => Pkt.own_kept (ou h) hcq (fun b (hb : rng _ _ b) (e : b = _) => absurd hb.1 (by rw [e]; exact Nat.not_le.2 (blk_lt (Ext.block (((hz9.t hz17).t ((Ext.refl _).drew)).t hz18) HGB.out)))), fun b hb => ⟨Nat.le_trans ((((hx.t hz9).t hz17).t ((Ext.refl _).drew)).t hz18).size hb.1, by rw [hsq]; exact hb.2, (fun b (hb : rng _ _ b) (e : b = _) => absurd hb.1 (by rw [e]; exact Nat.not_le.2 (blk_lt (Ext.block (((hz9.t hz17).t ((Ext.refl _).drew)).t hz18) HGB.out)))) b hb⟩⟩, Lib.hid (by rw [← HGS.out, ← HFG.out]; exact HRL.out), HAP, HAS, HN2.out, (((((hx.t hz9).t hz17).t ((Ext.refl _).drew)).t hz18).t hz19).chg1 hcq hge⟩
           ·
            have HC : Hid (chkAll t now x.path.parts.length x = (0, z)) := Lib.hid (HCH.out.2 ((HSTP.out (by rw [bal]; simp)).trans (by rw [K0.out]))); have HF := Lib.hid (fw_del (r := r) (dead := dead) (inn := inn) HB.out HW.out HC.out bal)
            try clear cf92
            try clear cf93
            try clear cf94
            try clear cf95
            try clear cf96
            have cf117 := blk2 (Ext.block ((((((hz1.t hz3).t hz5).t hz7).t hx).t hz9).t hz17) HB0.out.1); have cf118 := blk10 (Ext.block ((((((hz1.t hz3).t hz5).t hz7).t hx).t hz9).t hz17) HB0.out.2.1); have cf119 := blk12 (Ext.block ((((((hz1.t hz3).t hz5).t hz7).t hx).t hz9).t hz17) HB0.out.2.2); have cf120 := blk10 (Ext.block (hz9.t hz17) HGB.out); have cf121 := Part.at_ext (((((((hx0.t hz1).t hz3).t hz5).t hz7).t hx).t hz9).t hz17) hc
            go_wp2_with fail
            refine (i_AtLastHop z _ _ _ (rz0.ext (hz9.t hz17))).mono ?_; rintro e w20 ⟨rfl, hz20⟩; rw [bal]
            cases bd : (z.dst == r)
            ·
             have bd' : (z.dst != r) = true := by simp only [bne, bd]; rfl
             have HE := Lib.hid (HF.out.trans (by rw [bd]))
             try clear cf117
             try clear cf118
             try clear cf119
             try clear cf120
             try clear cf121
             have cf122 := blk2 (Ext.block (((((((hz1.t hz3).t hz5).t hz7).t hx).t hz9).t hz17).t hz20) HB0.out.1); have cf123 := blk10 (Ext.block (((((((hz1.t hz3).t hz5).t hz7).t hx).t hz9).t hz17).t hz20) HB0.out.2.1); have cf124 := blk12 (Ext.block (((((((hz1.t hz3).t hz5).t hz7).t hx).t hz9).t hz17).t hz20) HB0.out.2.2); have cf125 := blk10 (Ext.block ((hz9.t hz17).t hz20) HGB.out); have cf126 := Part.at_ext ((((((((hx0.t hz1).t hz3).t hz5).t hz7).t hx).t hz9).t hz17).t hz20) hc
             go_wp2_with fail
             refine (i_decide1 (2) x _ _ (w.heap.size + 1) _ (Ext.block (((((((hz1.t hz3).t hz5).t hz7).t hx).t hz9).t hz17).t hz20) HB0.out.2.1) (r0.ext ((((((((hx0.t hz1).t hz3).t hz5).t hz7).t hx).t hz9).t hz17).t hz20)) (r1.ext ((((((((hx0.t hz1).t hz3).t hz5).t hz7).t hx).t hz9).t hz17).t hz20)) hl).mono ?_; rintro e w21 ⟨u0, u1, rfl, oo, hz21⟩; obtain ⟨oa, ca, rfl, _⟩ := (Pkt.own_rd0 oo).shape; obtain ⟨ob, cb, rfl, _⟩ := (Pkt.own_rd1 oo).shape; have hs1 : w.heap.size + 1 + 1 + 1 ≤ w20.heap.size := by simpa using (((((((hz1.t hz3).t hz5).t hz7).t hx).t hz9).t hz17).t hz20).size
             have OX := Lib.hid oo; clear oo; have hR := Ext.block ((((((((hz1.t hz3).t hz5).t hz7).t hx).t hz9).t hz17).t hz20).t hz21) HB0.out.2.2; obtain ⟨wc, hwc, hrc, hcc, hsc⟩ := vd_set hR (.int .i64 (2)) (.int .i64 0) (.int .i64 x.kind) (.int .i64 x.src) (.int .i64 x.dst) ((.slice oa x.path.parts.length ca)) (.int .i64 x.pi) (.int .i64 x.hi) (.int .i64 x.beta) (.int .i64 x.rid) (.int .i64 x.seq) ((.slice ob x.pay.length cb)); have HOW := Lib.hid (Pkt.own_kept OX.out hcc (fun b hb e => by have h1 := hb.1; have h2 := hb.2; have h3 := hs1; ((try simp at h1) <;> omega))); have HXX := Lib.hid ((((((((((hx0.t hz1).t hz3).t hz5).t hz7).t hx).t hz9).t hz17).t hz20).t hz21).chg1 hcc (by omega)); have HWC := Lib.hid hwc; have HRC := Lib.hid hrc; have hsz2 : w21.heap.size = wc.heap.size := by rw [hsc]
             have hRF := fun o => fr_of hR o
             have gr0 := hRF 0; have gr1 := hRF 1; have gr2 := hRF 2; have gr3 := hRF 3; have gr4 := hRF 4; have gr5 := hRF 5; have gr6 := hRF 6; have gr7 := hRF 7; have gr8 := hRF 8; have gr9 := hRF 9; have gr10 := hRF 10; have gr11 := hRF 11; clear hRF hR  hwc hrc hcc hsc
             try clear cf122
             try clear cf123
             try clear cf124
             try clear cf125
             try clear cf126
             have cf127 := blk2 (Ext.block ((((((((hz1.t hz3).t hz5).t hz7).t hx).t hz9).t hz17).t hz20).t hz21) HB0.out.1); have cf128 := blk10 (Ext.block ((((((((hz1.t hz3).t hz5).t hz7).t hx).t hz9).t hz17).t hz20).t hz21) HB0.out.2.1); have cf129 := blk12 (Ext.block ((((((((hz1.t hz3).t hz5).t hz7).t hx).t hz9).t hz17).t hz20).t hz21) HB0.out.2.2); have cf130 := blk10 (Ext.block (((hz9.t hz17).t hz20).t hz21) HGB.out); have cf131 := Part.at_ext (((((((((hx0.t hz1).t hz3).t hz5).t hz7).t hx).t hz9).t hz17).t hz20).t hz21) hc
             go_wp2_with fail
             rw [← HWC.out]; clear gr0 gr1 gr2 gr3 gr4 gr5 gr6 gr7 gr8 gr9 gr10 gr11 cf127 cf128 cf129 cf130 cf131; have cc := blk12 HRC.out; refine bodyPost_ret (v := .tuple #[.agg #[.int .i64 (2), .int .i64 0, .int .i64 x.kind, .int .i64 x.src, .int .i64 x.dst, (.slice oa x.path.parts.length ca), .int .i64 x.pi, .int .i64 x.hi, .int .i64 x.beta, .int .i64 x.rid, .int .i64 x.seq, (.slice ob x.pay.length cb)], .int .i64 0]) (by simp [results, Tryz.results106, go_sem, cc]) rfl ?_; rw [HE.out]; exact ⟨_, _, _, rfl, Pkt.own_mono HOW.out (fun b hb => ⟨by have h1 := hb.1; have h3 := hs1; omega, by have h2 := hb.2; omega⟩), HXX.out⟩
            ·
             have bd' : (z.dst != r) = false := by simp only [bne, bd]; rfl
             have HE := Lib.hid (HF.out.trans (by rw [bd])); have hs1 : w.heap.size + 1 + 1 + 1 ≤ w7.heap.size := by simpa using (((hz1.t hz3).t hz5).t hz7).size
             have hs9 := ((hz9.t hz17).t hz20).size; have hR := Ext.block (((((((hz1.t hz3).t hz5).t hz7).t hx).t hz9).t hz17).t hz20) HB0.out.2.2; obtain ⟨wc, hwc, hrc, hcc, hsc⟩ := vd_set hR (.int .i64 1) (.int .i64 0) (.int .i64 z.kind) (.int .i64 z.src) (.int .i64 z.dst) ((.slice o0 z.path.parts.length c0)) (.int .i64 z.pi) (.int .i64 z.hi) (.int .i64 z.beta) (.int .i64 z.rid) (.int .i64 z.seq) ((.slice o1 z.pay.length c1)); have HOW := Lib.hid (Pkt.own_kept (Pkt.own_ext OZ.out ((hz9.t hz17).t hz20)) hcc (fun b hb e => by have h1 := (hS b hb).1; have h3 := hs1; ((try simp at e) <;> omega))); have HXX := Lib.hid (((((((((hx0.t hz1).t hz3).t hz5).t hz7).t hx).t hz9).t hz17).t hz20).chg1 hcc (by omega)); have HWC := Lib.hid hwc; have HRC := Lib.hid hrc; have hsz2 : w20.heap.size = wc.heap.size := by rw [hsc]
             have hRF := fun o => fr_of hR o
             have gr0 := hRF 0; have gr1 := hRF 1; have gr2 := hRF 2; have gr3 := hRF 3; have gr4 := hRF 4; have gr5 := hRF 5; have gr6 := hRF 6; have gr7 := hRF 7; have gr8 := hRF 8; have gr9 := hRF 9; have gr10 := hRF 10; have gr11 := hRF 11; clear hRF hR  hwc hrc hcc hsc
             try clear cf117
             try clear cf118
             try clear cf119
             try clear cf120
             try clear cf121
             have cf132 := blk2 (Ext.block (((((((hz1.t hz3).t hz5).t hz7).t hx).t hz9).t hz17).t hz20) HB0.out.1); have cf133 := blk10 (Ext.block (((((((hz1.t hz3).t hz5).t hz7).t hx).t hz9).t hz17).t hz20) HB0.out.2.1); have cf134 := blk12 (Ext.block (((((((hz1.t hz3).t hz5).t hz7).t hx).t hz9).t hz17).t hz20) HB0.out.2.2); have cf135 := blk10 (Ext.block ((hz9.t hz17).t hz20) HGB.out); have cf136 := Part.at_ext ((((((((hx0.t hz1).t hz3).t hz5).t hz7).t hx).t hz9).t hz17).t hz20) hc
             go_wp2_with fail
             rw [← HWC.out]; clear gr0 gr1 gr2 gr3 gr4 gr5 gr6 gr7 gr8 gr9 gr10 gr11 cf132 cf133 cf134 cf135 cf136; have cc := blk12 HRC.out; refine bodyPost_ret (v := .tuple #[.agg #[.int .i64 1, .int .i64 0, .int .i64 z.kind, .int .i64 z.src, .int .i64 z.dst, (.slice o0 z.path.parts.length c0), .int .i64 z.pi, .int .i64 z.hi, .int .i64 z.beta, .int .i64 z.rid, .int .i64 z.seq, (.slice o1 z.pay.length c1)], .int .i64 0]) (by simp [results, Tryz.results106, go_sem, cc]) rfl ?_; rw [HE.out]; exact ⟨_, _, _, rfl, Pkt.own_mono HOW.out (fun b hb => ⟨by have h1 := (hS b hb).1; have h3 := hs1; omega, by have h2 := (hS b hb).2.1; omega⟩), HXX.out⟩
         ·
          have HC : Hid (chkAll t now x.path.parts.length x = (chkCode t now y, verCur t y)) := Lib.hid (HRL.out.symm.trans (chk_stop (by simp [k0]))); have HE := Lib.hid (fw_chk (r := r) (dead := dead) (inn := inn) HB.out HW.out HC.out k0); generalize chkCode t now y = cd at *; have k1 : (cd == 0) = false := by rw [beq_eq_false_iff_ne]; exact k0
          have k2 : (cd != 0) = true := by simp only [bne, k1]; rfl
          have cf137 := blk2 (Ext.block ((((hz1.t hz3).t hz5).t hz7).t hx) HB0.out.1); have cf138 := blk10 (Ext.block ((((hz1.t hz3).t hz5).t hz7).t hx) HB0.out.2.1); have cf139 := blk12 (Ext.block ((((hz1.t hz3).t hz5).t hz7).t hx) HB0.out.2.2); have cf140 := blk10 HGB.out; have cf141 := Part.at_ext (((((hx0.t hz1).t hz3).t hz5).t hz7).t hx) hc
          go_wp2_with fail
          refine (i_decide1 (cd) x _ _ (w.heap.size + 1) _ (Ext.block ((((hz1.t hz3).t hz5).t hz7).t hx) HB0.out.2.1) (r0.ext (((((hx0.t hz1).t hz3).t hz5).t hz7).t hx)) (r1.ext (((((hx0.t hz1).t hz3).t hz5).t hz7).t hx)) hl).mono ?_; rintro e w22 ⟨u0, u1, rfl, oo, hz22⟩; obtain ⟨oa, ca, rfl, _⟩ := (Pkt.own_rd0 oo).shape; obtain ⟨ob, cb, rfl, _⟩ := (Pkt.own_rd1 oo).shape; have hs1 : w.heap.size + 1 + 1 + 1 ≤ wr.heap.size := by simpa using ((((hz1.t hz3).t hz5).t hz7).t hx).size
          have OX := Lib.hid oo; clear oo; have hR := Ext.block (((((hz1.t hz3).t hz5).t hz7).t hx).t hz22) HB0.out.2.2; obtain ⟨wc, hwc, hrc, hcc, hsc⟩ := vd_set hR (.int .i64 (cd)) (.int .i64 0) (.int .i64 x.kind) (.int .i64 x.src) (.int .i64 x.dst) ((.slice oa x.path.parts.length ca)) (.int .i64 x.pi) (.int .i64 x.hi) (.int .i64 x.beta) (.int .i64 x.rid) (.int .i64 x.seq) ((.slice ob x.pay.length cb)); have HOW := Lib.hid (Pkt.own_kept OX.out hcc (fun b hb e => by have h1 := hb.1; have h2 := hb.2; have h3 := hs1; ((try simp at h1) <;> omega))); have HXX := Lib.hid (((((((hx0.t hz1).t hz3).t hz5).t hz7).t hx).t hz22).chg1 hcc (by omega)); have HWC := Lib.hid hwc; have HRC := Lib.hid hrc; have hsz2 : w22.heap.size = wc.heap.size := by rw [hsc]
          have hRF := fun o => fr_of hR o
          have gr0 := hRF 0; have gr1 := hRF 1; have gr2 := hRF 2; have gr3 := hRF 3; have gr4 := hRF 4; have gr5 := hRF 5; have gr6 := hRF 6; have gr7 := hRF 7; have gr8 := hRF 8; have gr9 := hRF 9; have gr10 := hRF 10; have gr11 := hRF 11; clear hRF hR  hwc hrc hcc hsc
          try clear cf137
          try clear cf138
          try clear cf139
          try clear cf140
          try clear cf141
          have cf142 := blk2 (Ext.block (((((hz1.t hz3).t hz5).t hz7).t hx).t hz22) HB0.out.1); have cf143 := blk10 (Ext.block (((((hz1.t hz3).t hz5).t hz7).t hx).t hz22) HB0.out.2.1); have cf144 := blk12 (Ext.block (((((hz1.t hz3).t hz5).t hz7).t hx).t hz22) HB0.out.2.2); have cf145 := blk10 (Ext.block hz22 HGB.out); have cf146 := Part.at_ext ((((((hx0.t hz1).t hz3).t hz5).t hz7).t hx).t hz22) hc
          go_wp2_with fail
          rw [← HWC.out]; clear gr0 gr1 gr2 gr3 gr4 gr5 gr6 gr7 gr8 gr9 gr10 gr11 cf142 cf143 cf144 cf145 cf146; have cc := blk12 HRC.out; refine bodyPost_ret (v := .tuple #[.agg #[.int .i64 (cd), .int .i64 0, .int .i64 x.kind, .int .i64 x.src, .int .i64 x.dst, (.slice oa x.path.parts.length ca), .int .i64 x.pi, .int .i64 x.hi, .int .i64 x.beta, .int .i64 x.rid, .int .i64 x.seq, (.slice ob x.pay.length cb)], .int .i64 0]) (by simp [results, Tryz.results106, go_sem, cc]) rfl ?_; rw [HE.out]; exact ⟨_, _, _, rfl, Pkt.own_mono HOW.out (fun b hb => ⟨by have h1 := hb.1; have h3 := hs1; omega, by have h2 := hb.2; omega⟩), HXX.out⟩
set_option maxRecDepth 100000 in
set_option maxHeartbeats 40000000 in
theorem s_Forward (t : Topo) (va vk : Value) (r now dead inn : Int) (x : Pkt) (v0 v1 : Value) (w : World) (ha : RdS ASd.rep w va t.ases) (hk : RdS Lnk.rep w vk t.links) (r0 : RdS Part.rep w v0 x.path.parts) (r1 : RdS Rep.byte w v1 x.pay) (hl : x.size ≤ 1048576) :
  Calls Tryz.prog 38 #[.agg #[va, vk], .int .i64 r, .int .i64 now, .int .i64 dead, .int .i64 inn, .agg #[.int .i64 x.kind, .int .i64 x.src, .int .i64 x.dst, v0, .int .i64 x.pi, .int .i64 x.hi, .int .i64 x.beta, .int .i64 x.rid, .int .i64 x.seq, v1]] w fun e w' => ∃ u0 u1, e = .returned (.agg #[.int .i64 (forward t r now dead inn x).code, .int .i64 (forward t r now dead inn x).eg, .int .i64 (forward t r now dead inn x).pkt.kind, .int .i64 (forward t r now dead inn x).pkt.src, .int .i64 (forward t r now dead inn x).pkt.dst, u0, .int .i64 (forward t r now dead inn x).pkt.pi, .int .i64 (forward t r now dead inn x).pkt.hi, .int .i64 (forward t r now dead inn x).pkt.beta, .int .i64 (forward t r now dead inn x).pkt.rid, .int .i64 (forward t r now dead inn x).pkt.seq, u1]) ∧ Pkt.own (rng w.heap.size w'.heap.size) w' u0 u1 (forward t r now dead inn x).pkt ∧ Ext w w' := by
 have hlp : x.path.size ≤ 1048576 := by unfold Pkt.size at hl; omega
 obtain ⟨o, cap, rfl, hsm⟩ := r0.shape; obtain ⟨oy, cy, rfl, hsy⟩ := r1.shape; have hx0 := ext3 w (.cells #[va, vk] 56) (.cells #[.int .i64 x.kind, .int .i64 x.src, .int .i64 x.dst, .slice o x.path.parts.length cap, .int .i64 x.pi, .int .i64 x.hi, .int .i64 x.beta, .int .i64 x.rid, .int .i64 x.seq, .slice oy x.pay.length cy] 58) (.cells #[.int .i64 0, .int .i64 0, .int .i64 0, .int .i64 0, .int .i64 0, .slice none 0 0, .int .i64 0, .int .i64 0, .int .i64 0, .int .i64 0, .int .i64 0, .slice none 0 0] 62); have HB0 := Lib.hid (al3 w (.cells #[va, vk] 56) (.cells #[.int .i64 x.kind, .int .i64 x.src, .int .i64 x.dst, .slice o x.path.parts.length cap, .int .i64 x.pi, .int .i64 x.hi, .int .i64 x.beta, .int .i64 x.rid, .int .i64 x.seq, .slice oy x.pay.length cy] 58) (.cells #[.int .i64 0, .int .i64 0, .int .i64 0, .int .i64 0, .int .i64 0, .slice none 0 0, .int .i64 0, .int .i64 0, .int .i64 0, .int .i64 0, .int .i64 0, .slice none 0 0] 62))
 go_enter Tryz.func38, Tryz.ntmps38
 have cf1 := blk2 HB0.out.1; have cf2 := blk10 HB0.out.2.1; have cf3 := blk12 HB0.out.2.2
 go_wp2_with fail
 refine (s_ValidPacket x _ _ _ (r0.ext hx0) (r1.ext hx0)).mono ?_; rintro e w1 ⟨rfl, hz1⟩
 cases bv : validPkt x
 ·
  have HE := Lib.hid (fw_bad (t := t) (r := r) (now := now) (dead := dead) (inn := inn) (x := x) (by rw [bv]; rfl))
  try clear cf1
  try clear cf2
  try clear cf3
  have cf4 := blk2 (Ext.block hz1 HB0.out.1); have cf5 := blk10 (Ext.block hz1 HB0.out.2.1); have cf6 := blk12 (Ext.block hz1 HB0.out.2.2)
  go_wp2_with fail
  refine (s_l28No (2) x _ _ _ (r0.ext (hx0.t hz1)) (r1.ext (hx0.t hz1)) hl).mono ?_; rintro e w2 ⟨u0, u1, rfl, oo, hz2⟩; obtain ⟨oa, ca, rfl, _⟩ := (Pkt.own_rd0 oo).shape; obtain ⟨ob, cb, rfl, _⟩ := (Pkt.own_rd1 oo).shape; have hs1 : w.heap.size + 1 + 1 + 1 ≤ w1.heap.size := by simpa using hz1.size
  have OX := Lib.hid oo; clear oo; have hR := Ext.block (hz1.t hz2) HB0.out.2.2; obtain ⟨wc, hwc, hrc, hcc, hsc⟩ := vd_set hR (.int .i64 (2)) (.int .i64 0) (.int .i64 x.kind) (.int .i64 x.src) (.int .i64 x.dst) ((.slice oa x.path.parts.length ca)) (.int .i64 x.pi) (.int .i64 x.hi) (.int .i64 x.beta) (.int .i64 x.rid) (.int .i64 x.seq) ((.slice ob x.pay.length cb)); have HOW := Lib.hid (Pkt.own_kept OX.out hcc (fun b hb e => by have h1 := hb.1; have h2 := hb.2; have h3 := hs1; ((try simp at h1) <;> omega))); have HXX := Lib.hid (((hx0.t hz1).t hz2).chg1 hcc (by omega)); have HWC := Lib.hid hwc; have HRC := Lib.hid hrc; have hsz2 : w2.heap.size = wc.heap.size := by rw [hsc]
  have hRF := fun o => fr_of hR o
  have gr0 := hRF 0; have gr1 := hRF 1; have gr2 := hRF 2; have gr3 := hRF 3; have gr4 := hRF 4; have gr5 := hRF 5; have gr6 := hRF 6; have gr7 := hRF 7; have gr8 := hRF 8; have gr9 := hRF 9; have gr10 := hRF 10; have gr11 := hRF 11; clear hRF hR  hwc hrc hcc hsc
  try clear cf4
  try clear cf5
  try clear cf6
  have cf7 := blk2 (Ext.block (hz1.t hz2) HB0.out.1); have cf8 := blk10 (Ext.block (hz1.t hz2) HB0.out.2.1); have cf9 := blk12 (Ext.block (hz1.t hz2) HB0.out.2.2)
  go_wp2_with fail
  rw [← HWC.out]; clear gr0 gr1 gr2 gr3 gr4 gr5 gr6 gr7 gr8 gr9 gr10 gr11 cf7 cf8 cf9; have cc := blk12 HRC.out; refine bodyPost_ret (v := .agg #[.int .i64 (2), .int .i64 0, .int .i64 x.kind, .int .i64 x.src, .int .i64 x.dst, (.slice oa x.path.parts.length ca), .int .i64 x.pi, .int .i64 x.hi, .int .i64 x.beta, .int .i64 x.rid, .int .i64 x.seq, (.slice ob x.pay.length cb)]) (by simp [results, Tryz.results38, go_sem, cc]) rfl ?_; rw [HE.out]; exact ⟨_, _, rfl, Pkt.own_mono HOW.out (fun b hb => ⟨by have h1 := hb.1; have h3 := hs1; omega, by have h2 := hb.2; omega⟩), HXX.out⟩
 ·
  try clear cf1
  try clear cf2
  try clear cf3
  have cf10 := blk2 (Ext.block hz1 HB0.out.1); have cf11 := blk10 (Ext.block hz1 HB0.out.2.1); have cf12 := blk12 (Ext.block hz1 HB0.out.2.2)
  go_wp2_with fail
  refine (s_SimplePath t _ _ x.path _ _ (ha.ext (hx0.t hz1)) (hk.ext (hx0.t hz1)) (r0.ext (hx0.t hz1)) hlp).mono ?_; rintro e w3 ⟨rfl, hz3⟩
  cases bs : simple t x.path
  ·
   have HE := Lib.hid (fw_bad (t := t) (r := r) (now := now) (dead := dead) (inn := inn) (x := x) (by rw [bs]; simp))
   try clear cf10
   try clear cf11
   try clear cf12
   have cf13 := blk2 (Ext.block (hz1.t hz3) HB0.out.1); have cf14 := blk10 (Ext.block (hz1.t hz3) HB0.out.2.1); have cf15 := blk12 (Ext.block (hz1.t hz3) HB0.out.2.2)
   go_wp2_with fail
   refine (s_l28No (2) x _ _ _ (r0.ext ((hx0.t hz1).t hz3)) (r1.ext ((hx0.t hz1).t hz3)) hl).mono ?_; rintro e w4 ⟨u0, u1, rfl, oo, hz4⟩; obtain ⟨oa, ca, rfl, _⟩ := (Pkt.own_rd0 oo).shape; obtain ⟨ob, cb, rfl, _⟩ := (Pkt.own_rd1 oo).shape; have hs1 : w.heap.size + 1 + 1 + 1 ≤ w3.heap.size := by simpa using (hz1.t hz3).size
   have OX := Lib.hid oo; clear oo; have hR := Ext.block ((hz1.t hz3).t hz4) HB0.out.2.2; obtain ⟨wc, hwc, hrc, hcc, hsc⟩ := vd_set hR (.int .i64 (2)) (.int .i64 0) (.int .i64 x.kind) (.int .i64 x.src) (.int .i64 x.dst) ((.slice oa x.path.parts.length ca)) (.int .i64 x.pi) (.int .i64 x.hi) (.int .i64 x.beta) (.int .i64 x.rid) (.int .i64 x.seq) ((.slice ob x.pay.length cb)); have HOW := Lib.hid (Pkt.own_kept OX.out hcc (fun b hb e => by have h1 := hb.1; have h2 := hb.2; have h3 := hs1; ((try simp at h1) <;> omega))); have HXX := Lib.hid ((((hx0.t hz1).t hz3).t hz4).chg1 hcc (by omega)); have HWC := Lib.hid hwc; have HRC := Lib.hid hrc; have hsz2 : w4.heap.size = wc.heap.size := by rw [hsc]
   have hRF := fun o => fr_of hR o
   have gr0 := hRF 0; have gr1 := hRF 1; have gr2 := hRF 2; have gr3 := hRF 3; have gr4 := hRF 4; have gr5 := hRF 5; have gr6 := hRF 6; have gr7 := hRF 7; have gr8 := hRF 8; have gr9 := hRF 9; have gr10 := hRF 10; have gr11 := hRF 11; clear hRF hR  hwc hrc hcc hsc
   try clear cf13
   try clear cf14
   try clear cf15
   have cf16 := blk2 (Ext.block ((hz1.t hz3).t hz4) HB0.out.1); have cf17 := blk10 (Ext.block ((hz1.t hz3).t hz4) HB0.out.2.1); have cf18 := blk12 (Ext.block ((hz1.t hz3).t hz4) HB0.out.2.2)
   go_wp2_with fail
   rw [← HWC.out]; clear gr0 gr1 gr2 gr3 gr4 gr5 gr6 gr7 gr8 gr9 gr10 gr11 cf16 cf17 cf18; have cc := blk12 HRC.out; refine bodyPost_ret (v := .agg #[.int .i64 (2), .int .i64 0, .int .i64 x.kind, .int .i64 x.src, .int .i64 x.dst, (.slice oa x.path.parts.length ca), .int .i64 x.pi, .int .i64 x.hi, .int .i64 x.beta, .int .i64 x.rid, .int .i64 x.seq, (.slice ob x.pay.length cb)]) (by simp [results, Tryz.results38, go_sem, cc]) rfl ?_; rw [HE.out]; exact ⟨_, _, rfl, Pkt.own_mono HOW.out (fun b hb => ⟨by have h1 := hb.1; have h3 := hs1; omega, by have h2 := hb.2; omega⟩), HXX.out⟩
  ·
   try clear cf10
   try clear cf11
   try clear cf12
   have cf19 := blk2 (Ext.block (hz1.t hz3) HB0.out.1); have cf20 := blk10 (Ext.block (hz1.t hz3) HB0.out.2.1); have cf21 := blk12 (Ext.block (hz1.t hz3) HB0.out.2.2)
   go_wp2_with fail
   refine (s_CurrentAS x _ _ _ (r0.ext ((hx0.t hz1).t hz3))).mono ?_; rintro e w5 ⟨rfl, hz5⟩
   cases bc : (curAs x == r)
   ·
    have bc' : (curAs x != r) = true := by simp only [bne, bc]; rfl
    have HE := Lib.hid (fw_bad (t := t) (r := r) (now := now) (dead := dead) (inn := inn) (x := x) (by rw [bc]; simp))
    try clear cf19
    try clear cf20
    try clear cf21
    have cf22 := blk2 (Ext.block ((hz1.t hz3).t hz5) HB0.out.1); have cf23 := blk10 (Ext.block ((hz1.t hz3).t hz5) HB0.out.2.1); have cf24 := blk12 (Ext.block ((hz1.t hz3).t hz5) HB0.out.2.2)
    go_wp2_with fail
    refine (s_l28No (2) x _ _ _ (r0.ext (((hx0.t hz1).t hz3).t hz5)) (r1.ext (((hx0.t hz1).t hz3).t hz5)) hl).mono ?_; rintro e w6 ⟨u0, u1, rfl, oo, hz6⟩; obtain ⟨oa, ca, rfl, _⟩ := (Pkt.own_rd0 oo).shape; obtain ⟨ob, cb, rfl, _⟩ := (Pkt.own_rd1 oo).shape; have hs1 : w.heap.size + 1 + 1 + 1 ≤ w5.heap.size := by simpa using ((hz1.t hz3).t hz5).size
    have OX := Lib.hid oo; clear oo; have hR := Ext.block (((hz1.t hz3).t hz5).t hz6) HB0.out.2.2; obtain ⟨wc, hwc, hrc, hcc, hsc⟩ := vd_set hR (.int .i64 (2)) (.int .i64 0) (.int .i64 x.kind) (.int .i64 x.src) (.int .i64 x.dst) ((.slice oa x.path.parts.length ca)) (.int .i64 x.pi) (.int .i64 x.hi) (.int .i64 x.beta) (.int .i64 x.rid) (.int .i64 x.seq) ((.slice ob x.pay.length cb)); have HOW := Lib.hid (Pkt.own_kept OX.out hcc (fun b hb e => by have h1 := hb.1; have h2 := hb.2; have h3 := hs1; ((try simp at h1) <;> omega))); have HXX := Lib.hid (((((hx0.t hz1).t hz3).t hz5).t hz6).chg1 hcc (by omega)); have HWC := Lib.hid hwc; have HRC := Lib.hid hrc; have hsz2 : w6.heap.size = wc.heap.size := by rw [hsc]
    have hRF := fun o => fr_of hR o
    have gr0 := hRF 0; have gr1 := hRF 1; have gr2 := hRF 2; have gr3 := hRF 3; have gr4 := hRF 4; have gr5 := hRF 5; have gr6 := hRF 6; have gr7 := hRF 7; have gr8 := hRF 8; have gr9 := hRF 9; have gr10 := hRF 10; have gr11 := hRF 11; clear hRF hR  hwc hrc hcc hsc
    try clear cf22
    try clear cf23
    try clear cf24
    have cf25 := blk2 (Ext.block (((hz1.t hz3).t hz5).t hz6) HB0.out.1); have cf26 := blk10 (Ext.block (((hz1.t hz3).t hz5).t hz6) HB0.out.2.1); have cf27 := blk12 (Ext.block (((hz1.t hz3).t hz5).t hz6) HB0.out.2.2)
    go_wp2_with fail
    rw [← HWC.out]; clear gr0 gr1 gr2 gr3 gr4 gr5 gr6 gr7 gr8 gr9 gr10 gr11 cf25 cf26 cf27; have cc := blk12 HRC.out; refine bodyPost_ret (v := .agg #[.int .i64 (2), .int .i64 0, .int .i64 x.kind, .int .i64 x.src, .int .i64 x.dst, (.slice oa x.path.parts.length ca), .int .i64 x.pi, .int .i64 x.hi, .int .i64 x.beta, .int .i64 x.rid, .int .i64 x.seq, (.slice ob x.pay.length cb)]) (by simp [results, Tryz.results38, go_sem, cc]) rfl ?_; rw [HE.out]; exact ⟨_, _, rfl, Pkt.own_mono HOW.out (fun b hb => ⟨by have h1 := hb.1; have h3 := hs1; omega, by have h2 := hb.2; omega⟩), HXX.out⟩
   ·
    have bc' : (curAs x != r) = false := by simp only [bne, bc]; rfl
    have HB := Lib.hid (show (validPkt x && simple t x.path && (curAs x == r)) = true by rw [bv, bs, bc]; rfl); obtain ⟨⟨p0, p1, p2⟩, q0, q1, q2⟩ := hasHop_parts (valid_has bv); have hcp := curPart_at p2; obtain ⟨b, off, oh, ch, rfl, hc, hr⟩ := Part.at r0 x.pi.toNat p2; rw [← hcp] at hc hr; clear hcp bv bs bc
    try clear cf19
    try clear cf20
    try clear cf21
    have cf28 := blk2 (Ext.block ((hz1.t hz3).t hz5) HB0.out.1); have cf29 := blk10 (Ext.block ((hz1.t hz3).t hz5) HB0.out.2.1); have cf30 := blk12 (Ext.block ((hz1.t hz3).t hz5) HB0.out.2.2); have cf31 := Part.at_ext (((hx0.t hz1).t hz3).t hz5) hc
    go_wp2_with fail
    refine wp_region_ext (by kernel_rfl) (by kernel_rfl) ?_; have q0 := ExtW.cell (cf28.1); have q1 := ExtW.cell (cf28.2); have q2 := ExtW.cell (cf29.1); have q3 := ExtW.cell (cf29.2.1); have q4 := ExtW.cell (cf29.2.2.1); have q5 := ExtW.cell (cf29.2.2.2.1); have q6 := ExtW.cell (cf29.2.2.2.2.1); have q7 := ExtW.cell (cf29.2.2.2.2.2.1); have q8 := ExtW.cell (cf29.2.2.2.2.2.2.1); have q9 := ExtW.cell (cf29.2.2.2.2.2.2.2.1); have q10 := ExtW.cell (cf29.2.2.2.2.2.2.2.2.1); have q11 := ExtW.cell (cf29.2.2.2.2.2.2.2.2.2); have q12 := ExtW.cell (cf30.1); have q13 := ExtW.cell (cf30.2.1); have q14 := ExtW.cell (cf30.2.2.1); have q15 := ExtW.cell (cf30.2.2.2.1); have q16 := ExtW.cell (cf30.2.2.2.2.1); have q17 := ExtW.cell (cf30.2.2.2.2.2.1); have q18 := ExtW.cell (cf30.2.2.2.2.2.2.1); have q19 := ExtW.cell (cf30.2.2.2.2.2.2.2.1); have q20 := ExtW.cell (cf30.2.2.2.2.2.2.2.2.1); have q21 := ExtW.cell (cf30.2.2.2.2.2.2.2.2.2.1); have q22 := ExtW.cell (cf30.2.2.2.2.2.2.2.2.2.2.1); have q23 := ExtW.cell (cf30.2.2.2.2.2.2.2.2.2.2.2); have q24 := ExtW.cell (cf31.1); have q25 := ExtW.cell (cf31.2.1); have q26 := ExtW.cell (cf31.2.2.1); have q27 := ExtW.cell (cf31.2.2.2)
    repeat (first | go_big_quiet_step (((first | (go_at_call 112; exact Calls.ext_of (s_PartIngress (curPart x) _ x.hi _ ((hr.ext (((hx0.t hz1).t hz3).t hz5)).ext (ExtW.h _))))))) | quiet_step (((first | (go_at_call 112; exact Calls.ext_of (s_PartIngress (curPart x) _ x.hi _ ((hr.ext (((hx0.t hz1).t hz3).t hz5)).ext (ExtW.h _))))))))
    refine wpQuiet_nil ?_; intro w7 hw7; have hz7 := ExtW.out hw7; clear hw7 q0 q1 q2 q3 q4 q5 q6 q7 q8 q9 q10 q11 q12 q13 q14 q15 q16 q17 q18 q19 q20 q21 q22 q23 q24 q25 q26 q27; have HWF := Lib.hid (fun (h : ((x.pi == 0) && (x.hi == 0)) = false) => (wantIn_f h).symm); have HWT := Lib.hid (fun (h : ((x.pi == 0) && (x.hi == 0)) = true) => (wantIn_t h).symm)
    try clear cf28
    try clear cf29
    try clear cf30
    try clear cf31
    have cf32 := blk2 (Ext.block (((hz1.t hz3).t hz5).t hz7) HB0.out.1); have cf33 := blk10 (Ext.block (((hz1.t hz3).t hz5).t hz7) HB0.out.2.1); have cf34 := blk12 (Ext.block (((hz1.t hz3).t hz5).t hz7) HB0.out.2.2); have cf35 := Part.at_ext ((((hx0.t hz1).t hz3).t hz5).t hz7) hc
    go_upto_region 4 with (fail)
    go_cut [52] (fun c wx => ∃ cb : Bool, c = .bool cb ∧ Hid (((x.pi == 0) && (x.hi == 0)) = cb) ∧ w7 = wx)
    case first =>
     cases hp : (x.pi == 0)
     ·
      go_wp2_with fail
      go_meet
      exact ⟨false, rfl, Lib.hid (by rw [hp]; rfl), rfl⟩
     ·
      go_wp2_with fail
      go_meet
      exact ⟨_, rfl, Lib.hid (by rw [hp]; rfl), rfl⟩
    case rest =>
     obtain ⟨cb, rfl, HCB, hwq⟩ := hcut; subst hwq
     go_upto_if 52 with (fail)
     go_cut [13] (fun c wx => c = .int .i64 (wantIn x) ∧ w7 = wx)
     case first =>
      cases cb
      ·
       go_wp2_with fail
       go_meet
       exact ⟨congrArg (Value.int .i64) (HWF.out HCB.out), rfl⟩
      ·
       go_wp2_with fail
       go_meet
       exact ⟨congrArg (Value.int .i64) (HWT.out HCB.out), rfl⟩
     case rest =>
      obtain ⟨rfl, hwq⟩ := hcut; subst hwq
      cases bw : (inn == wantIn x)
      ·
       have bw' : (inn != wantIn x) = true := by simp only [bne, bw]; rfl
       have HE := Lib.hid (fw_in (now := now) (dead := dead) HB.out bw')
       go_wp2_with fail
       refine (s_l28No (3) x _ _ _ (r0.ext ((((hx0.t hz1).t hz3).t hz5).t hz7)) (r1.ext ((((hx0.t hz1).t hz3).t hz5).t hz7)) hl).mono ?_; rintro e w8 ⟨u0, u1, rfl, oo, hz8⟩; obtain ⟨oa, ca, rfl, _⟩ := (Pkt.own_rd0 oo).shape; obtain ⟨ob, cb, rfl, _⟩ := (Pkt.own_rd1 oo).shape; have hs1 : w.heap.size + 1 + 1 + 1 ≤ w7.heap.size := by simpa using (((hz1.t hz3).t hz5).t hz7).size
       have OX := Lib.hid oo; clear oo; have hR := Ext.block ((((hz1.t hz3).t hz5).t hz7).t hz8) HB0.out.2.2; obtain ⟨wc, hwc, hrc, hcc, hsc⟩ := vd_set hR (.int .i64 (3)) (.int .i64 0) (.int .i64 x.kind) (.int .i64 x.src) (.int .i64 x.dst) ((.slice oa x.path.parts.length ca)) (.int .i64 x.pi) (.int .i64 x.hi) (.int .i64 x.beta) (.int .i64 x.rid) (.int .i64 x.seq) ((.slice ob x.pay.length cb)); have HOW := Lib.hid (Pkt.own_kept OX.out hcc (fun b hb e => by have h1 := hb.1; have h2 := hb.2; have h3 := hs1; ((try simp at h1) <;> omega))); have HXX := Lib.hid ((((((hx0.t hz1).t hz3).t hz5).t hz7).t hz8).chg1 hcc (by omega)); have HWC := Lib.hid hwc; have HRC := Lib.hid hrc; have hsz2 : w8.heap.size = wc.heap.size := by rw [hsc]
       have hRF := fun o => fr_of hR o
       have gr0 := hRF 0; have gr1 := hRF 1; have gr2 := hRF 2; have gr3 := hRF 3; have gr4 := hRF 4; have gr5 := hRF 5; have gr6 := hRF 6; have gr7 := hRF 7; have gr8 := hRF 8; have gr9 := hRF 9; have gr10 := hRF 10; have gr11 := hRF 11; clear hRF hR  hwc hrc hcc hsc
       try clear cf32
       try clear cf33
       try clear cf34
       try clear cf35
       have cf36 := blk2 (Ext.block ((((hz1.t hz3).t hz5).t hz7).t hz8) HB0.out.1); have cf37 := blk10 (Ext.block ((((hz1.t hz3).t hz5).t hz7).t hz8) HB0.out.2.1); have cf38 := blk12 (Ext.block ((((hz1.t hz3).t hz5).t hz7).t hz8) HB0.out.2.2); have cf39 := Part.at_ext (((((hx0.t hz1).t hz3).t hz5).t hz7).t hz8) hc
       go_wp2_with fail
       rw [← HWC.out]; clear gr0 gr1 gr2 gr3 gr4 gr5 gr6 gr7 gr8 gr9 gr10 gr11 cf36 cf37 cf38 cf39; have cc := blk12 HRC.out; refine bodyPost_ret (v := .agg #[.int .i64 (3), .int .i64 0, .int .i64 x.kind, .int .i64 x.src, .int .i64 x.dst, (.slice oa x.path.parts.length ca), .int .i64 x.pi, .int .i64 x.hi, .int .i64 x.beta, .int .i64 x.rid, .int .i64 x.seq, (.slice ob x.pay.length cb)]) (by simp [results, Tryz.results38, go_sem, cc]) rfl ?_; rw [HE.out]; exact ⟨_, _, rfl, Pkt.own_mono HOW.out (fun b hb => ⟨by have h1 := hb.1; have h3 := hs1; omega, by have h2 := hb.2; omega⟩), HXX.out⟩
      ·
       have bw' : (inn != wantIn x) = false := by simp only [bne, bw]; rfl
       have HW := Lib.hid bw'; generalize wantIn x = wi at bw'
       go_wp2_with fail
       refine (s_l28Check t _ _ now x _ _ _ (ha.ext ((((hx0.t hz1).t hz3).t hz5).t hz7)) (hk.ext ((((hx0.t hz1).t hz3).t hz5).t hz7)) (r0.ext ((((hx0.t hz1).t hz3).t hz5).t hz7)) (r1.ext ((((hx0.t hz1).t hz3).t hz5).t hz7)) hl).mono ?_; rintro e w9 ⟨u0, u1, rfl, ou, hz9⟩; obtain ⟨o0, c0, rfl, _⟩ := (Pkt.own_rd0 ou).shape; obtain ⟨o1, c1, rfl, _⟩ := (Pkt.own_rd1 ou).shape; have hxk := hz9
       obtain ⟨g, hgw⟩ : ∃ g : Nat, g = w9.heap.size := ⟨_, rfl⟩
       have hxc := hxk.alloc (.cells #[.int .i64 (verCur t x).kind, .int .i64 (verCur t x).src, .int .i64 (verCur t x).dst, .slice o0 (verCur t x).path.parts.length c0, .int .i64 (verCur t x).pi, .int .i64 (verCur t x).hi, .int .i64 (verCur t x).beta, .int .i64 (verCur t x).rid, .int .i64 (verCur t x).seq, .slice o1 (verCur t x).pay.length c1] 58); have hge : w7.heap.size ≤ g := by rw [hgw]; exact hxk.size
       have HST0 : Hid (CurSt w7.heap.size g (verCur t x) (chkCode t now x) (w9.alloc (.cells #[.int .i64 (verCur t x).kind, .int .i64 (verCur t x).src, .int .i64 (verCur t x).dst, .slice o0 (verCur t x).path.parts.length c0, .int .i64 (verCur t x).pi, .int .i64 (verCur t x).hi, .int .i64 (verCur t x).beta, .int .i64 (verCur t x).rid, .int .i64 (verCur t x).seq, .slice o1 (verCur t x).pay.length c1] 58))) := by
        rw [hgw]; exact Lib.hid ⟨o0, _, c0, o1, _, c1, _, blk_new _ _, fun _ => Pkt.own_ext ou ((Ext.refl _).alloc _), fun b hb => ⟨hb.1, Nat.lt_of_lt_of_le hb.2 ((Ext.refl _).alloc _).size, fun e => by rw [e] at hb; exact absurd hb.2 (Nat.lt_irrefl _)⟩⟩
       clear ou
       try clear cf32
       try clear cf33
       try clear cf34
       try clear cf35
       have cf40 := blk2 (Ext.block ((((hz1.t hz3).t hz5).t hz7).t hxk) HB0.out.1); have cf41 := blk10 (Ext.block ((((hz1.t hz3).t hz5).t hz7).t hxk) HB0.out.2.1); have cf42 := blk12 (Ext.block ((((hz1.t hz3).t hz5).t hz7).t hxk) HB0.out.2.2); have cf43 := Part.at_ext (((((hx0.t hz1).t hz3).t hz5).t hz7).t hxk) hc
       go_wp2_with fail
       rw [← hgw]; clear hgw
       try clear cf40
       try clear cf41
       try clear cf42
       try clear cf43
       go_loopg [15] x.path.parts.length (fun gk c wr => ∃ y : Pkt, c = .int .i64 (chkCode t now y) ∧ CurSt w7.heap.size g (verCur t y) (chkCode t now y) wr ∧ Hid (chkAll t now gk y = chkAll t now x.path.parts.length x) ∧ Hid (y.path = x.path) ∧ Hid (y.size = x.size) ∧ x.path.parts.length ≤ gk + y.pi.toNat ∧ Ext w7 wr)
       case atStart => exact ⟨x, rfl, HST0.out, Lib.hid rfl, Lib.hid rfl, Lib.hid rfl, Nat.le_add_right _ _, hxc⟩
       case round =>
        clear HST0 hxc; obtain ⟨y, rfl, hst, HRL, HP, HS, hN, hx⟩ := hrel; obtain ⟨o0, n0, c0, o1, n1, c1, S0, hg, hown, hS⟩ := hst; have HGB := Lib.hid hg; clear hg
        by_cases k0 : chkCode t now y = 0
        ·
         obtain ⟨hhz, hcz⟩ := code_has k0; have HZP := Lib.hid ((verCur_path t y).trans HP.out); have HZS := Lib.hid ((verCur_size t y).trans HS.out); have HZI := Lib.hid (verCur_pi t y); have HGO := Lib.hid (fun (f : Nat) => chk_go (f := f) k0); have HSTP := Lib.hid (fun (h : (lastOf (verCur t y) && !(atLast (verCur t y))) = false) => chk_stop (f := gk) (t := t) (now := now) (x := y) (by rw [k0]; simpa using h)); rw [k0] at hown; generalize hz : verCur t y = z at *; have HZ := Lib.hid hz; clear hz; have oz := hown rfl; have OZ := Lib.hid oz; obtain ⟨_, _, he0, _⟩ := (Pkt.own_rd0 oz).shape; obtain ⟨_, _, he1, _⟩ := (Pkt.own_rd1 oz).shape
         cases he0
         cases he1
         have rz0 := Pkt.own_rd0 oz; have rz1 := Pkt.own_rd1 oz; clear oz hown; rw [k0]; have K0 := Lib.hid k0; clear k0; obtain ⟨⟨z0, z1, z2⟩, y0, y1, y2⟩ := hasHop_parts hhz; have hlz : z.size ≤ 1048576 := by rw [HZS.out]; exact hl
         have HCH : Hid (chkAll t now x.path.parts.length x = (0, z) ↔ chkAll t now gk y = (0, z)) := Lib.hid (by rw [HRL.out]); have hcz3 := curPart_at z2; obtain ⟨bz, offz, ohz, chz, hzz, hcc, hrc⟩ := Part.at rz0 z.pi.toNat z2; rw [← hcz3] at hcc hrc; clear hcz3; obtain ⟨_, _, _, hlh⟩ := hrc.shape; have hlp2 : z.path.parts.length ≤ 9223372036854775807 := rz0.small
         cases hzz
         have hw1 : IntKind.i64.wrap (((curPart z).hops.length : Int) - 1) = ((curPart z).hops.length : Int) - 1 := IntWalk.i64_in _ (by omega); have hw2 : IntKind.i64.wrap ((z.path.parts.length : Int) - 1) = (z.path.parts.length : Int) - 1 := IntWalk.i64_in _ (by omega)
         cases bl : lastOf z
         ·
          have bal : atLast z = false := by unfold atLast; rw [bl]; simp
          have bl2 : (z.hi == ((curPart z).hops.length : Int) - 1) = false := bl; have cf44 := blk2 (Ext.block ((((hz1.t hz3).t hz5).t hz7).t hx) HB0.out.1); have cf45 := blk10 (Ext.block ((((hz1.t hz3).t hz5).t hz7).t hx) HB0.out.2.1); have cf46 := blk12 (Ext.block ((((hz1.t hz3).t hz5).t hz7).t hx) HB0.out.2.2); have cf47 := blk10 HGB.out; have cf48 := Part.at_ext (((((hx0.t hz1).t hz3).t hz5).t hz7).t hx) hc
          go_wp2_with fail
          refine wp_region_ext (by kernel_rfl) (by kernel_rfl) ?_; have q0 := ExtW.cell (cf44.1); have q1 := ExtW.cell (cf44.2); have q2 := ExtW.cell (cf45.1); have q3 := ExtW.cell (cf45.2.1); have q4 := ExtW.cell (cf45.2.2.1); have q5 := ExtW.cell (cf45.2.2.2.1); have q6 := ExtW.cell (cf45.2.2.2.2.1); have q7 := ExtW.cell (cf45.2.2.2.2.2.1); have q8 := ExtW.cell (cf45.2.2.2.2.2.2.1); have q9 := ExtW.cell (cf45.2.2.2.2.2.2.2.1); have q10 := ExtW.cell (cf45.2.2.2.2.2.2.2.2.1); have q11 := ExtW.cell (cf45.2.2.2.2.2.2.2.2.2); have q12 := ExtW.cell (cf46.1); have q13 := ExtW.cell (cf46.2.1); have q14 := ExtW.cell (cf46.2.2.1); have q15 := ExtW.cell (cf46.2.2.2.1); have q16 := ExtW.cell (cf46.2.2.2.2.1); have q17 := ExtW.cell (cf46.2.2.2.2.2.1); have q18 := ExtW.cell (cf46.2.2.2.2.2.2.1); have q19 := ExtW.cell (cf46.2.2.2.2.2.2.2.1); have q20 := ExtW.cell (cf46.2.2.2.2.2.2.2.2.1); have q21 := ExtW.cell (cf46.2.2.2.2.2.2.2.2.2.1); have q22 := ExtW.cell (cf46.2.2.2.2.2.2.2.2.2.2.1); have q23 := ExtW.cell (cf46.2.2.2.2.2.2.2.2.2.2.2); have q24 := ExtW.cell (cf47.1); have q25 := ExtW.cell (cf47.2.1); have q26 := ExtW.cell (cf47.2.2.1); have q27 := ExtW.cell (cf47.2.2.2.1); have q28 := ExtW.cell (cf47.2.2.2.2.1); have q29 := ExtW.cell (cf47.2.2.2.2.2.1); have q30 := ExtW.cell (cf47.2.2.2.2.2.2.1); have q31 := ExtW.cell (cf47.2.2.2.2.2.2.2.1); have q32 := ExtW.cell (cf47.2.2.2.2.2.2.2.2.1); have q33 := ExtW.cell (cf47.2.2.2.2.2.2.2.2.2); have q34 := ExtW.cell (cf48.1)
          have q35 := ExtW.cell (cf48.2.1); have q36 := ExtW.cell (cf48.2.2.1); have q37 := ExtW.cell (cf48.2.2.2); have q38 := ExtW.cell (hcc.1); have q39 := ExtW.cell (hcc.2.1); have q40 := ExtW.cell (hcc.2.2.1); have q41 := ExtW.cell (hcc.2.2.2)
          repeat (first | go_big_quiet_step ((fail)) | quiet_step ((fail)))
          refine wpQuiet_nil ?_; intro w10 hw10; have hz10 := ExtW.out hw10; clear hw10 q0 q1 q2 q3 q4 q5 q6 q7 q8 q9 q10 q11 q12 q13 q14 q15 q16 q17 q18 q19 q20 q21 q22 q23 q24 q25 q26 q27 q28 q29 q30 q31 q32 q33 q34 q35 q36 q37 q38 q39 q40 q41; clear hw1 hw2; have HC : Hid (chkAll t now x.path.parts.length x = (0, z)) := Lib.hid (HCH.out.2 ((HSTP.out (by rw [bl]; rfl)).trans (by rw [K0.out]))); have HF := Lib.hid (fw_out (r := r) (dead := dead) (inn := inn) HB.out HW.out HC.out bal)
          try clear cf44
          try clear cf45
          try clear cf46
          try clear cf47
          try clear cf48
          have cf49 := blk2 (Ext.block (((((hz1.t hz3).t hz5).t hz7).t hx).t hz10) HB0.out.1); have cf50 := blk10 (Ext.block (((((hz1.t hz3).t hz5).t hz7).t hx).t hz10) HB0.out.2.1); have cf51 := blk12 (Ext.block (((((hz1.t hz3).t hz5).t hz7).t hx).t hz10) HB0.out.2.2); have cf52 := blk10 (Ext.block hz10 HGB.out); have cf53 := Part.at_ext ((((((hx0.t hz1).t hz3).t hz5).t hz7).t hx).t hz10) hc; have cf54 := Part.at_ext hz10 hcc
          go_wp2_with fail
          refine (s_AtLastHop z _ _ _ (rz0.ext hz10)).mono ?_; rintro e w11 ⟨rfl, hz11⟩; rw [bal]
          try clear cf49
          try clear cf50
          try clear cf51
          try clear cf52
          try clear cf53
          try clear cf54
          have cf55 := blk2 (Ext.block ((((((hz1.t hz3).t hz5).t hz7).t hx).t hz10).t hz11) HB0.out.1); have cf56 := blk10 (Ext.block ((((((hz1.t hz3).t hz5).t hz7).t hx).t hz10).t hz11) HB0.out.2.1); have cf57 := blk12 (Ext.block ((((((hz1.t hz3).t hz5).t hz7).t hx).t hz10).t hz11) HB0.out.2.2); have cf58 := blk10 (Ext.block (hz10.t hz11) HGB.out); have cf59 := Part.at_ext (((((((hx0.t hz1).t hz3).t hz5).t hz7).t hx).t hz10).t hz11) hc; have cf60 := Part.at_ext (hz10.t hz11) hcc
          go_wp2_with fail
          refine (s_AtLastHop z _ _ _ (rz0.ext (hz10.t hz11))).mono ?_; rintro e w12 ⟨rfl, hz12⟩; rw [bal]
          try clear cf55
          try clear cf56
          try clear cf57
          try clear cf58
          try clear cf59
          try clear cf60
          have cf61 := blk2 (Ext.block (((((((hz1.t hz3).t hz5).t hz7).t hx).t hz10).t hz11).t hz12) HB0.out.1); have cf62 := blk10 (Ext.block (((((((hz1.t hz3).t hz5).t hz7).t hx).t hz10).t hz11).t hz12) HB0.out.2.1); have cf63 := blk12 (Ext.block (((((((hz1.t hz3).t hz5).t hz7).t hx).t hz10).t hz11).t hz12) HB0.out.2.2); have cf64 := blk10 (Ext.block ((hz10.t hz11).t hz12) HGB.out); have cf65 := Part.at_ext ((((((((hx0.t hz1).t hz3).t hz5).t hz7).t hx).t hz10).t hz11).t hz12) hc; have cf66 := Part.at_ext ((hz10.t hz11).t hz12) hcc
          go_wp2_with fail
          refine wp_region_ext (by kernel_rfl) (by kernel_rfl) ?_; have q0 := ExtW.cell (cf61.1); have q1 := ExtW.cell (cf61.2); have q2 := ExtW.cell (cf62.1); have q3 := ExtW.cell (cf62.2.1); have q4 := ExtW.cell (cf62.2.2.1); have q5 := ExtW.cell (cf62.2.2.2.1); have q6 := ExtW.cell (cf62.2.2.2.2.1); have q7 := ExtW.cell (cf62.2.2.2.2.2.1); have q8 := ExtW.cell (cf62.2.2.2.2.2.2.1); have q9 := ExtW.cell (cf62.2.2.2.2.2.2.2.1); have q10 := ExtW.cell (cf62.2.2.2.2.2.2.2.2.1); have q11 := ExtW.cell (cf62.2.2.2.2.2.2.2.2.2); have q12 := ExtW.cell (cf63.1); have q13 := ExtW.cell (cf63.2.1); have q14 := ExtW.cell (cf63.2.2.1); have q15 := ExtW.cell (cf63.2.2.2.1); have q16 := ExtW.cell (cf63.2.2.2.2.1); have q17 := ExtW.cell (cf63.2.2.2.2.2.1); have q18 := ExtW.cell (cf63.2.2.2.2.2.2.1); have q19 := ExtW.cell (cf63.2.2.2.2.2.2.2.1); have q20 := ExtW.cell (cf63.2.2.2.2.2.2.2.2.1); have q21 := ExtW.cell (cf63.2.2.2.2.2.2.2.2.2.1); have q22 := ExtW.cell (cf63.2.2.2.2.2.2.2.2.2.2.1); have q23 := ExtW.cell (cf63.2.2.2.2.2.2.2.2.2.2.2); have q24 := ExtW.cell (cf64.1); have q25 := ExtW.cell (cf64.2.1); have q26 := ExtW.cell (cf64.2.2.1); have q27 := ExtW.cell (cf64.2.2.2.1); have q28 := ExtW.cell (cf64.2.2.2.2.1); have q29 := ExtW.cell (cf64.2.2.2.2.2.1); have q30 := ExtW.cell (cf64.2.2.2.2.2.2.1); have q31 := ExtW.cell (cf64.2.2.2.2.2.2.2.1); have q32 := ExtW.cell (cf64.2.2.2.2.2.2.2.2.1); have q33 := ExtW.cell (cf64.2.2.2.2.2.2.2.2.2); have q34 := ExtW.cell (cf65.1)
          have q35 := ExtW.cell (cf65.2.1); have q36 := ExtW.cell (cf65.2.2.1); have q37 := ExtW.cell (cf65.2.2.2); have q38 := ExtW.cell (cf66.1); have q39 := ExtW.cell (cf66.2.1); have q40 := ExtW.cell (cf66.2.2.1); have q41 := ExtW.cell (cf66.2.2.2)
          repeat (first | go_big_quiet_step (((first | (go_at_call 116; exact Calls.ext_of (s_PartEgress (curPart z) _ z.hi _ ((hrc.ext ((hz10.t hz11).t hz12)).ext (ExtW.h _))))))) | quiet_step (((first | (go_at_call 116; exact Calls.ext_of (s_PartEgress (curPart z) _ z.hi _ ((hrc.ext ((hz10.t hz11).t hz12)).ext (ExtW.h _))))))))
          refine wpQuiet_nil ?_; intro w13 hw13; have hz13 := ExtW.out hw13; clear hw13 q0 q1 q2 q3 q4 q5 q6 q7 q8 q9 q10 q11 q12 q13 q14 q15 q16 q17 q18 q19 q20 q21 q22 q23 q24 q25 q26 q27 q28 q29 q30 q31 q32 q33 q34 q35 q36 q37 q38 q39 q40 q41; generalize heg : partEg (curPart z) z.hi = eg at *; have HEG := Lib.hid heg; clear heg
          try clear cf61
          try clear cf62
          try clear cf63
          try clear cf64
          try clear cf65
          try clear cf66
          have cf67 := blk2 (Ext.block ((((((((hz1.t hz3).t hz5).t hz7).t hx).t hz10).t hz11).t hz12).t hz13) HB0.out.1); have cf68 := blk10 (Ext.block ((((((((hz1.t hz3).t hz5).t hz7).t hx).t hz10).t hz11).t hz12).t hz13) HB0.out.2.1); have cf69 := blk12 (Ext.block ((((((((hz1.t hz3).t hz5).t hz7).t hx).t hz10).t hz11).t hz12).t hz13) HB0.out.2.2); have cf70 := blk10 (Ext.block (((hz10.t hz11).t hz12).t hz13) HGB.out); have cf71 := Part.at_ext (((((((((hx0.t hz1).t hz3).t hz5).t hz7).t hx).t hz10).t hz11).t hz12).t hz13) hc; have cf72 := Part.at_ext (((hz10.t hz11).t hz12).t hz13) hcc
          go_wp2_with fail
          refine (s_StepAllowed t _ _ ⟨r, inn, eg⟩ _ (hk.ext (((((((((hx0.t hz1).t hz3).t hz5).t hz7).t hx).t hz10).t hz11).t hz12).t hz13))).mono ?_; rintro e w14 ⟨rfl, hz14⟩
          cases bso : stepOk t ⟨r, inn, eg⟩
          ·
           have HE := Lib.hid (HF.out.trans (by rw [bso]))
           try clear cf67
           try clear cf68
           try clear cf69
           try clear cf70
           try clear cf71
           try clear cf72
           have cf73 := blk2 (Ext.block (((((((((hz1.t hz3).t hz5).t hz7).t hx).t hz10).t hz11).t hz12).t hz13).t hz14) HB0.out.1); have cf74 := blk10 (Ext.block (((((((((hz1.t hz3).t hz5).t hz7).t hx).t hz10).t hz11).t hz12).t hz13).t hz14) HB0.out.2.1); have cf75 := blk12 (Ext.block (((((((((hz1.t hz3).t hz5).t hz7).t hx).t hz10).t hz11).t hz12).t hz13).t hz14) HB0.out.2.2); have cf76 := blk10 (Ext.block ((((hz10.t hz11).t hz12).t hz13).t hz14) HGB.out); have cf77 := Part.at_ext ((((((((((hx0.t hz1).t hz3).t hz5).t hz7).t hx).t hz10).t hz11).t hz12).t hz13).t hz14) hc; have cf78 := Part.at_ext ((((hz10.t hz11).t hz12).t hz13).t hz14) hcc
           go_wp2_with fail
           refine (s_l28No (6) x _ _ _ (r0.ext ((((((((((hx0.t hz1).t hz3).t hz5).t hz7).t hx).t hz10).t hz11).t hz12).t hz13).t hz14)) (r1.ext ((((((((((hx0.t hz1).t hz3).t hz5).t hz7).t hx).t hz10).t hz11).t hz12).t hz13).t hz14)) hl).mono ?_; rintro e w15 ⟨u0, u1, rfl, oo, hz15⟩; obtain ⟨oa, ca, rfl, _⟩ := (Pkt.own_rd0 oo).shape; obtain ⟨ob, cb, rfl, _⟩ := (Pkt.own_rd1 oo).shape; have hs1 : w.heap.size + 1 + 1 + 1 ≤ w14.heap.size := by simpa using (((((((((hz1.t hz3).t hz5).t hz7).t hx).t hz10).t hz11).t hz12).t hz13).t hz14).size
           have OX := Lib.hid oo; clear oo; have hR := Ext.block ((((((((((hz1.t hz3).t hz5).t hz7).t hx).t hz10).t hz11).t hz12).t hz13).t hz14).t hz15) HB0.out.2.2; obtain ⟨wc, hwc, hrc, hcc, hsc⟩ := vd_set hR (.int .i64 (6)) (.int .i64 0) (.int .i64 x.kind) (.int .i64 x.src) (.int .i64 x.dst) ((.slice oa x.path.parts.length ca)) (.int .i64 x.pi) (.int .i64 x.hi) (.int .i64 x.beta) (.int .i64 x.rid) (.int .i64 x.seq) ((.slice ob x.pay.length cb)); have HOW := Lib.hid (Pkt.own_kept OX.out hcc (fun b hb e => by have h1 := hb.1; have h2 := hb.2; have h3 := hs1; ((try simp at h1) <;> omega))); have HXX := Lib.hid ((((((((((((hx0.t hz1).t hz3).t hz5).t hz7).t hx).t hz10).t hz11).t hz12).t hz13).t hz14).t hz15).chg1 hcc (by omega)); have HWC := Lib.hid hwc; have HRC := Lib.hid hrc; have hsz2 : w15.heap.size = wc.heap.size := by rw [hsc]
           have hRF := fun o => fr_of hR o
           have gr0 := hRF 0; have gr1 := hRF 1; have gr2 := hRF 2; have gr3 := hRF 3; have gr4 := hRF 4; have gr5 := hRF 5; have gr6 := hRF 6; have gr7 := hRF 7; have gr8 := hRF 8; have gr9 := hRF 9; have gr10 := hRF 10; have gr11 := hRF 11; clear hRF hR  hwc hrc hcc hsc
           try clear cf73
           try clear cf74
           try clear cf75
           try clear cf76
           try clear cf77
           try clear cf78
           have cf79 := blk2 (Ext.block ((((((((((hz1.t hz3).t hz5).t hz7).t hx).t hz10).t hz11).t hz12).t hz13).t hz14).t hz15) HB0.out.1); have cf80 := blk10 (Ext.block ((((((((((hz1.t hz3).t hz5).t hz7).t hx).t hz10).t hz11).t hz12).t hz13).t hz14).t hz15) HB0.out.2.1); have cf81 := blk12 (Ext.block ((((((((((hz1.t hz3).t hz5).t hz7).t hx).t hz10).t hz11).t hz12).t hz13).t hz14).t hz15) HB0.out.2.2); have cf82 := blk10 (Ext.block (((((hz10.t hz11).t hz12).t hz13).t hz14).t hz15) HGB.out); have cf83 := Part.at_ext (((((((((((hx0.t hz1).t hz3).t hz5).t hz7).t hx).t hz10).t hz11).t hz12).t hz13).t hz14).t hz15) hc; have cf84 := Part.at_ext (((((hz10.t hz11).t hz12).t hz13).t hz14).t hz15) hcc
           go_wp2_with fail
           rw [← HWC.out]; clear gr0 gr1 gr2 gr3 gr4 gr5 gr6 gr7 gr8 gr9 gr10 gr11 cf79 cf80 cf81 cf82 cf83 cf84; have cc := blk12 HRC.out; refine bodyPost_ret (v := .agg #[.int .i64 (6), .int .i64 0, .int .i64 x.kind, .int .i64 x.src, .int .i64 x.dst, (.slice oa x.path.parts.length ca), .int .i64 x.pi, .int .i64 x.hi, .int .i64 x.beta, .int .i64 x.rid, .int .i64 x.seq, (.slice ob x.pay.length cb)]) (by simp [results, Tryz.results38, go_sem, cc]) rfl ?_; rw [HE.out]; exact ⟨_, _, rfl, Pkt.own_mono HOW.out (fun b hb => ⟨by have h1 := hb.1; have h3 := hs1; omega, by have h2 := hb.2; omega⟩), HXX.out⟩
          ·
           try clear cf67
           try clear cf68
           try clear cf69
           try clear cf70
           try clear cf71
           try clear cf72
           have cf85 := blk2 (Ext.block (((((((((hz1.t hz3).t hz5).t hz7).t hx).t hz10).t hz11).t hz12).t hz13).t hz14) HB0.out.1); have cf86 := blk10 (Ext.block (((((((((hz1.t hz3).t hz5).t hz7).t hx).t hz10).t hz11).t hz12).t hz13).t hz14) HB0.out.2.1); have cf87 := blk12 (Ext.block (((((((((hz1.t hz3).t hz5).t hz7).t hx).t hz10).t hz11).t hz12).t hz13).t hz14) HB0.out.2.2); have cf88 := blk10 (Ext.block ((((hz10.t hz11).t hz12).t hz13).t hz14) HGB.out); have cf89 := Part.at_ext ((((((((((hx0.t hz1).t hz3).t hz5).t hz7).t hx).t hz10).t hz11).t hz12).t hz13).t hz14) hc; have cf90 := Part.at_ext ((((hz10.t hz11).t hz12).t hz13).t hz14) hcc
           go_wp2_with fail
           refine (s_Contains _ _ _).mono ?_; rintro e _ ⟨rfl, rfl⟩
           cases bin : inSet dead eg
           ·
            have HE := Lib.hid (HF.out.trans (by rw [bso, bin]))
            go_wp2_with fail
            refine (s_AdvanceHop z _ _ _ (rz0.ext ((((hz10.t hz11).t hz12).t hz13).t hz14)) (rz1.ext ((((hz10.t hz11).t hz12).t hz13).t hz14)) hlz).mono ?_; rintro e w17 ⟨u0, u1, rfl, oa, hz17⟩; obtain ⟨ox, cx, rfl, _⟩ := (Pkt.own_rd0 oa).shape; obtain ⟨oxx, cxx, rfl, _⟩ := (Pkt.own_rd1 oa).shape; have hs1 : w.heap.size + 1 + 1 + 1 ≤ w14.heap.size := by simpa using (((((((((hz1.t hz3).t hz5).t hz7).t hx).t hz10).t hz11).t hz12).t hz13).t hz14).size
            have OX := Lib.hid oa; clear oa; have hR := Ext.block ((((((((((hz1.t hz3).t hz5).t hz7).t hx).t hz10).t hz11).t hz12).t hz13).t hz14).t hz17) HB0.out.2.2; obtain ⟨wc, hwc, hrc, hcc, hsc⟩ := vd_set hR (.int .i64 0) (.int .i64 eg) (.int .i64 (advance z).kind) (.int .i64 (advance z).src) (.int .i64 (advance z).dst) ((.slice ox (advance z).path.parts.length cx)) (.int .i64 (advance z).pi) (.int .i64 (advance z).hi) (.int .i64 (advance z).beta) (.int .i64 (advance z).rid) (.int .i64 (advance z).seq) ((.slice oxx (advance z).pay.length cxx)); have HOW := Lib.hid (Pkt.own_kept OX.out hcc (fun b hb e => by have h1 := hb.1; have h2 := hb.2; have h3 := hs1; ((try simp at h1) <;> omega))); have HXX := Lib.hid ((((((((((((hx0.t hz1).t hz3).t hz5).t hz7).t hx).t hz10).t hz11).t hz12).t hz13).t hz14).t hz17).chg1 hcc (by omega)); have HWC := Lib.hid hwc; have HRC := Lib.hid hrc; have hsz2 : w17.heap.size = wc.heap.size := by rw [hsc]
            have hRF := fun o => fr_of hR o
            have gr0 := hRF 0; have gr1 := hRF 1; have gr2 := hRF 2; have gr3 := hRF 3; have gr4 := hRF 4; have gr5 := hRF 5; have gr6 := hRF 6; have gr7 := hRF 7; have gr8 := hRF 8; have gr9 := hRF 9; have gr10 := hRF 10; have gr11 := hRF 11; clear hRF hR  hwc hrc hcc hsc
            try clear cf85
            try clear cf86
            try clear cf87
            try clear cf88
            try clear cf89
            try clear cf90
            have cf91 := blk2 (Ext.block ((((((((((hz1.t hz3).t hz5).t hz7).t hx).t hz10).t hz11).t hz12).t hz13).t hz14).t hz17) HB0.out.1); have cf92 := blk10 (Ext.block ((((((((((hz1.t hz3).t hz5).t hz7).t hx).t hz10).t hz11).t hz12).t hz13).t hz14).t hz17) HB0.out.2.1); have cf93 := blk12 (Ext.block ((((((((((hz1.t hz3).t hz5).t hz7).t hx).t hz10).t hz11).t hz12).t hz13).t hz14).t hz17) HB0.out.2.2); have cf94 := blk10 (Ext.block (((((hz10.t hz11).t hz12).t hz13).t hz14).t hz17) HGB.out); have cf95 := Part.at_ext (((((((((((hx0.t hz1).t hz3).t hz5).t hz7).t hx).t hz10).t hz11).t hz12).t hz13).t hz14).t hz17) hc; have cf96 := Part.at_ext (((((hz10.t hz11).t hz12).t hz13).t hz14).t hz17) hcc
            go_wp2_with fail
            rw [← HWC.out]; clear gr0 gr1 gr2 gr3 gr4 gr5 gr6 gr7 gr8 gr9 gr10 gr11 cf91 cf92 cf93 cf94 cf95 cf96; have cc := blk12 HRC.out; refine bodyPost_ret (v := .agg #[.int .i64 0, .int .i64 eg, .int .i64 (advance z).kind, .int .i64 (advance z).src, .int .i64 (advance z).dst, (.slice ox (advance z).path.parts.length cx), .int .i64 (advance z).pi, .int .i64 (advance z).hi, .int .i64 (advance z).beta, .int .i64 (advance z).rid, .int .i64 (advance z).seq, (.slice oxx (advance z).pay.length cxx)]) (by simp [results, Tryz.results38, go_sem, cc]) rfl ?_; rw [HE.out]; exact ⟨_, _, rfl, Pkt.own_mono HOW.out (fun b hb => ⟨by have h1 := hb.1; have h3 := hs1; omega, by have h2 := hb.2; omega⟩), HXX.out⟩
           ·
            have HE := Lib.hid (HF.out.trans (by rw [bso, bin]))
            go_wp2_with fail
            refine (s_l28No (7) x _ _ _ (r0.ext ((((((((((hx0.t hz1).t hz3).t hz5).t hz7).t hx).t hz10).t hz11).t hz12).t hz13).t hz14)) (r1.ext ((((((((((hx0.t hz1).t hz3).t hz5).t hz7).t hx).t hz10).t hz11).t hz12).t hz13).t hz14)) hl).mono ?_; rintro e w18 ⟨u0, u1, rfl, oo, hz18⟩; obtain ⟨oa, ca, rfl, _⟩ := (Pkt.own_rd0 oo).shape; obtain ⟨ob, cb, rfl, _⟩ := (Pkt.own_rd1 oo).shape; have hs1 : w.heap.size + 1 + 1 + 1 ≤ w14.heap.size := by simpa using (((((((((hz1.t hz3).t hz5).t hz7).t hx).t hz10).t hz11).t hz12).t hz13).t hz14).size
            have OX := Lib.hid oo; clear oo; have hR := Ext.block ((((((((((hz1.t hz3).t hz5).t hz7).t hx).t hz10).t hz11).t hz12).t hz13).t hz14).t hz18) HB0.out.2.2; obtain ⟨wc, hwc, hrc, hcc, hsc⟩ := vd_set hR (.int .i64 (7)) (.int .i64 0) (.int .i64 x.kind) (.int .i64 x.src) (.int .i64 x.dst) ((.slice oa x.path.parts.length ca)) (.int .i64 x.pi) (.int .i64 x.hi) (.int .i64 x.beta) (.int .i64 x.rid) (.int .i64 x.seq) ((.slice ob x.pay.length cb)); have HOW := Lib.hid (Pkt.own_kept OX.out hcc (fun b hb e => by have h1 := hb.1; have h2 := hb.2; have h3 := hs1; ((try simp at h1) <;> omega))); have HXX := Lib.hid ((((((((((((hx0.t hz1).t hz3).t hz5).t hz7).t hx).t hz10).t hz11).t hz12).t hz13).t hz14).t hz18).chg1 hcc (by omega)); have HWC := Lib.hid hwc; have HRC := Lib.hid hrc; have hsz2 : w18.heap.size = wc.heap.size := by rw [hsc]
            have hRF := fun o => fr_of hR o
            have gr0 := hRF 0; have gr1 := hRF 1; have gr2 := hRF 2; have gr3 := hRF 3; have gr4 := hRF 4; have gr5 := hRF 5; have gr6 := hRF 6; have gr7 := hRF 7; have gr8 := hRF 8; have gr9 := hRF 9; have gr10 := hRF 10; have gr11 := hRF 11; clear hRF hR  hwc hrc hcc hsc
            try clear cf85
            try clear cf86
            try clear cf87
            try clear cf88
            try clear cf89
            try clear cf90
            have cf97 := blk2 (Ext.block ((((((((((hz1.t hz3).t hz5).t hz7).t hx).t hz10).t hz11).t hz12).t hz13).t hz14).t hz18) HB0.out.1); have cf98 := blk10 (Ext.block ((((((((((hz1.t hz3).t hz5).t hz7).t hx).t hz10).t hz11).t hz12).t hz13).t hz14).t hz18) HB0.out.2.1); have cf99 := blk12 (Ext.block ((((((((((hz1.t hz3).t hz5).t hz7).t hx).t hz10).t hz11).t hz12).t hz13).t hz14).t hz18) HB0.out.2.2); have cf100 := blk10 (Ext.block (((((hz10.t hz11).t hz12).t hz13).t hz14).t hz18) HGB.out); have cf101 := Part.at_ext (((((((((((hx0.t hz1).t hz3).t hz5).t hz7).t hx).t hz10).t hz11).t hz12).t hz13).t hz14).t hz18) hc; have cf102 := Part.at_ext (((((hz10.t hz11).t hz12).t hz13).t hz14).t hz18) hcc
            go_wp2_with fail
            rw [← HWC.out]; clear gr0 gr1 gr2 gr3 gr4 gr5 gr6 gr7 gr8 gr9 gr10 gr11 cf97 cf98 cf99 cf100 cf101 cf102; have cc := blk12 HRC.out; refine bodyPost_ret (v := .agg #[.int .i64 (7), .int .i64 0, .int .i64 x.kind, .int .i64 x.src, .int .i64 x.dst, (.slice oa x.path.parts.length ca), .int .i64 x.pi, .int .i64 x.hi, .int .i64 x.beta, .int .i64 x.rid, .int .i64 x.seq, (.slice ob x.pay.length cb)]) (by simp [results, Tryz.results38, go_sem, cc]) rfl ?_; rw [HE.out]; exact ⟨_, _, rfl, Pkt.own_mono HOW.out (fun b hb => ⟨by have h1 := hb.1; have h3 := hs1; omega, by have h2 := hb.2; omega⟩), HXX.out⟩
         ·
          cases bal : atLast z
          ·
           have bl2 : (z.hi == ((curPart z).hops.length : Int) - 1) = true := bl
           have bl3 : decide (z.pi < (z.path.parts.length : Int) - 1) = true := by
            have h := bal; unfold atLast at h; rw [bl, decide_eq_true (show 0 ≤ curAs z by omega)] at h; have h2 : (z.pi == (z.path.parts.length : Int) - 1) = false := by simpa using h
            first | (rw [beq_eq_false_iff_ne] at h2; exact decide_eq_true (by omega)) | (rw [beq_iff_eq] at h2; exact decide_eq_false (by omega))
           have cf103 := blk2 (Ext.block ((((hz1.t hz3).t hz5).t hz7).t hx) HB0.out.1); have cf104 := blk10 (Ext.block ((((hz1.t hz3).t hz5).t hz7).t hx) HB0.out.2.1); have cf105 := blk12 (Ext.block ((((hz1.t hz3).t hz5).t hz7).t hx) HB0.out.2.2); have cf106 := blk10 HGB.out; have cf107 := Part.at_ext (((((hx0.t hz1).t hz3).t hz5).t hz7).t hx) hc
           go_wp2_with fail
           refine wp_region_ext (by kernel_rfl) (by kernel_rfl) ?_; have q0 := ExtW.cell (cf103.1); have q1 := ExtW.cell (cf103.2); have q2 := ExtW.cell (cf104.1); have q3 := ExtW.cell (cf104.2.1); have q4 := ExtW.cell (cf104.2.2.1); have q5 := ExtW.cell (cf104.2.2.2.1); have q6 := ExtW.cell (cf104.2.2.2.2.1); have q7 := ExtW.cell (cf104.2.2.2.2.2.1); have q8 := ExtW.cell (cf104.2.2.2.2.2.2.1); have q9 := ExtW.cell (cf104.2.2.2.2.2.2.2.1); have q10 := ExtW.cell (cf104.2.2.2.2.2.2.2.2.1); have q11 := ExtW.cell (cf104.2.2.2.2.2.2.2.2.2); have q12 := ExtW.cell (cf105.1); have q13 := ExtW.cell (cf105.2.1); have q14 := ExtW.cell (cf105.2.2.1); have q15 := ExtW.cell (cf105.2.2.2.1); have q16 := ExtW.cell (cf105.2.2.2.2.1); have q17 := ExtW.cell (cf105.2.2.2.2.2.1); have q18 := ExtW.cell (cf105.2.2.2.2.2.2.1); have q19 := ExtW.cell (cf105.2.2.2.2.2.2.2.1); have q20 := ExtW.cell (cf105.2.2.2.2.2.2.2.2.1); have q21 := ExtW.cell (cf105.2.2.2.2.2.2.2.2.2.1); have q22 := ExtW.cell (cf105.2.2.2.2.2.2.2.2.2.2.1); have q23 := ExtW.cell (cf105.2.2.2.2.2.2.2.2.2.2.2); have q24 := ExtW.cell (cf106.1); have q25 := ExtW.cell (cf106.2.1); have q26 := ExtW.cell (cf106.2.2.1); have q27 := ExtW.cell (cf106.2.2.2.1); have q28 := ExtW.cell (cf106.2.2.2.2.1); have q29 := ExtW.cell (cf106.2.2.2.2.2.1); have q30 := ExtW.cell (cf106.2.2.2.2.2.2.1); have q31 := ExtW.cell (cf106.2.2.2.2.2.2.2.1); have q32 := ExtW.cell (cf106.2.2.2.2.2.2.2.2.1); have q33 := ExtW.cell (cf106.2.2.2.2.2.2.2.2.2)
           have q34 := ExtW.cell (cf107.1); have q35 := ExtW.cell (cf107.2.1); have q36 := ExtW.cell (cf107.2.2.1); have q37 := ExtW.cell (cf107.2.2.2); have q38 := ExtW.cell (hcc.1); have q39 := ExtW.cell (hcc.2.1); have q40 := ExtW.cell (hcc.2.2.1); have q41 := ExtW.cell (hcc.2.2.2)
           repeat (first | go_big_quiet_step ((fail)) | quiet_step ((fail)))
           refine wpQuiet_nil ?_; intro w19 hw19; have hz19 := ExtW.out hw19; clear hw19 q0 q1 q2 q3 q4 q5 q6 q7 q8 q9 q10 q11 q12 q13 q14 q15 q16 q17 q18 q19 q20 q21 q22 q23 q24 q25 q26 q27 q28 q29 q30 q31 q32 q33 q34 q35 q36 q37 q38 q39 q40 q41; clear hw1 hw2 bl2 bl3
           obtain ⟨fg, hfg⟩ : ∃ fg, gk = fg + 1 := ⟨gk - 1, by rw [HZP.out] at z2; rw [HZI.out] at z2; omega⟩
           have HGS := Lib.hid (HGO.out fg bl bal); have hap := adv_pi (show ¬ curAs z < 0 by omega) bal bl; have HAP := Lib.hid ((adv_path z).trans HZP.out); have HAS := Lib.hid ((adv_size z).trans HZS.out); have hla : (advance z).size ≤ 1048576 := by rw [HAS.out]; exact hl
           have hN2 : x.path.parts.length ≤ fg + (advance z).pi.toNat := by rw [hap, HZI.out]; omega
           have HN2 := Lib.hid hN2; clear hN2 hap; have HFG := Lib.hid hfg; clear hfg
           try clear cf103
           try clear cf104
           try clear cf105
           try clear cf106
           try clear cf107
           have cf108 := blk2 (Ext.block (((((hz1.t hz3).t hz5).t hz7).t hx).t hz19) HB0.out.1); have cf109 := blk10 (Ext.block (((((hz1.t hz3).t hz5).t hz7).t hx).t hz19) HB0.out.2.1); have cf110 := blk12 (Ext.block (((((hz1.t hz3).t hz5).t hz7).t hx).t hz19) HB0.out.2.2); have cf111 := blk10 (Ext.block hz19 HGB.out); have cf112 := Part.at_ext ((((((hx0.t hz1).t hz3).t hz5).t hz7).t hx).t hz19) hc; have cf113 := Part.at_ext hz19 hcc
           go_wp2_with fail
           refine planStep (.blk [0, 1, 2] (.one 3 (.one 4 (.blk [5, 6, 7] (.one 8 (.blk [9] .done)))))) [8] (by kernel_rfl) (by kernel_rfl) ?_
           try clear cf108
           try clear cf109
           try clear cf110
           try clear cf111
           try clear cf112
           try clear cf113
           have cf114 := blk2 (Ext.block ((((((hz1.t hz3).t hz5).t hz7).t hx).t hz19).t ((Ext.refl _).drew)) HB0.out.1); have cf115 := blk10 (Ext.block ((((((hz1.t hz3).t hz5).t hz7).t hx).t hz19).t ((Ext.refl _).drew)) HB0.out.2.1); have cf116 := blk12 (Ext.block ((((((hz1.t hz3).t hz5).t hz7).t hx).t hz19).t ((Ext.refl _).drew)) HB0.out.2.2); have cf117 := blk10 (Ext.block (hz19.t ((Ext.refl _).drew)) HGB.out); have cf118 := Part.at_ext (((((((hx0.t hz1).t hz3).t hz5).t hz7).t hx).t hz19).t ((Ext.refl _).drew)) hc; have cf119 := Part.at_ext (hz19.t ((Ext.refl _).drew)) hcc; refine blkStep (fun K HK => ?_); simp only [PK]
           go_wp2_with fail
           refine HK.out _ _ ?_; clear HK K; refine oneStep (fun K HK => ?_); simp only [PK]
           go_wp2_with fail
           refine (s_AdvanceHop z _ _ _ (rz0.ext (hz19.t ((Ext.refl _).drew))) (rz1.ext (hz19.t ((Ext.refl _).drew))) hlz).mono ?_; rintro e w20 ⟨b0, b1, rfl, oa, hz20⟩; obtain ⟨ob0, cb0, rfl, _⟩ := (Pkt.own_rd0 oa).shape; obtain ⟨ob1, cb1, rfl, _⟩ := (Pkt.own_rd1 oa).shape
           try clear cf114
           try clear cf115
           try clear cf116
           try clear cf117
           try clear cf118
           try clear cf119
           have cf120 := blk2 (Ext.block (((((((hz1.t hz3).t hz5).t hz7).t hx).t hz19).t ((Ext.refl _).drew)).t hz20) HB0.out.1); have cf121 := blk10 (Ext.block (((((((hz1.t hz3).t hz5).t hz7).t hx).t hz19).t ((Ext.refl _).drew)).t hz20) HB0.out.2.1); have cf122 := blk12 (Ext.block (((((((hz1.t hz3).t hz5).t hz7).t hx).t hz19).t ((Ext.refl _).drew)).t hz20) HB0.out.2.2); have cf123 := blk10 (Ext.block ((hz19.t ((Ext.refl _).drew)).t hz20) HGB.out); have cf124 := Part.at_ext ((((((((hx0.t hz1).t hz3).t hz5).t hz7).t hx).t hz19).t ((Ext.refl _).drew)).t hz20) hc; have cf125 := Part.at_ext ((hz19.t ((Ext.refl _).drew)).t hz20) hcc
           go_wp2_with fail
           refine HK.out _ _ hz20 ?_; clear HK K; refine oneStep (fun K HK => ?_); simp only [PK]
           go_wp2_with fail
           refine (s_l28Check t _ _ now (advance z) _ _ _ (ha.ext ((((((((hx0.t hz1).t hz3).t hz5).t hz7).t hx).t hz19).t ((Ext.refl _).drew)).t hz20)) (hk.ext ((((((((hx0.t hz1).t hz3).t hz5).t hz7).t hx).t hz19).t ((Ext.refl _).drew)).t hz20)) (Pkt.own_rd0 oa) (Pkt.own_rd1 oa) hla).mono ?_; rintro e w21 ⟨u0, u1, rfl, ou, hz21⟩; obtain ⟨ou0, cu0, rfl, _⟩ := (Pkt.own_rd0 ou).shape; obtain ⟨ou1, cu1, rfl, _⟩ := (Pkt.own_rd1 ou).shape
           try clear cf120
           try clear cf121
           try clear cf122
           try clear cf123
           try clear cf124
           try clear cf125
           have cf126 := blk2 (Ext.block ((((((((hz1.t hz3).t hz5).t hz7).t hx).t hz19).t ((Ext.refl _).drew)).t hz20).t hz21) HB0.out.1); have cf127 := blk10 (Ext.block ((((((((hz1.t hz3).t hz5).t hz7).t hx).t hz19).t ((Ext.refl _).drew)).t hz20).t hz21) HB0.out.2.1); have cf128 := blk12 (Ext.block ((((((((hz1.t hz3).t hz5).t hz7).t hx).t hz19).t ((Ext.refl _).drew)).t hz20).t hz21) HB0.out.2.2); have cf129 := blk10 (Ext.block (((hz19.t ((Ext.refl _).drew)).t hz20).t hz21) HGB.out); have cf130 := Part.at_ext (((((((((hx0.t hz1).t hz3).t hz5).t hz7).t hx).t hz19).t ((Ext.refl _).drew)).t hz20).t hz21) hc; have cf131 := Part.at_ext (((hz19.t ((Ext.refl _).drew)).t hz20).t hz21) hcc
           go_wp2_with fail
           refine HK.out _ _ hz21 ?_; clear HK K; refine blkStep (fun K HK => ?_); simp only [PK]
           go_wp2_with fail
           refine HK.out _ _ ?_; clear HK K; have hG := Ext.block (((hz19.t ((Ext.refl _).drew)).t hz20).t hz21) HGB.out; have hcg := blk10 hG; have hfg0 := fr_of hG 0; have hfg1 := fr_of hG 1; have hfg2 := fr_of hG 2; have hfg3 := fr_of hG 3; have hfg4 := fr_of hG 4; have hfg5 := fr_of hG 5; have hfg6 := fr_of hG 6; have hfg7 := fr_of hG 7; have hfg8 := fr_of hG 8; have hfg9 := fr_of hG 9; obtain ⟨wq, hwq, hbq, hcq, hsq⟩ := pk_set hG (.int .i64 (verCur t (advance z)).kind) (.int .i64 (verCur t (advance z)).src) (.int .i64 (verCur t (advance z)).dst) ((.slice ou0 (verCur t (advance z)).path.parts.length cu0)) (.int .i64 (verCur t (advance z)).pi) (.int .i64 (verCur t (advance z)).hi) (.int .i64 (verCur t (advance z)).beta) (.int .i64 (verCur t (advance z)).rid) (.int .i64 (verCur t (advance z)).seq) ((.slice ou1 (verCur t (advance z)).pay.length cu1)); have HWQ := Lib.hid hwq; clear hwq hG; refine badStep (by kernel_rfl) (fun K HK => ?_); simp only [PK]
           go_wp2_with fail
           refine HK.out _ _ ?_; clear HK K; refine blkStep (fun K HK => ?_); simp only [PK]
           go_wp2_with fail
           refine HK.out _ _ ?_; clear HK K; refine doneStep (by kernel_rfl) ?_; rw [← HWQ.out]
           go_wp2_with fail
           go_roundg fg
           case measure => rw [HFG.out]; exact Nat.lt_succ_self _
           case rel => exact ⟨advance z, rfl, ⟨ou0, _, cu0, ou1, _, cu1, _, hbq, fun _ => Pkt.own_kept ou hcq (fun b (hb : rng _ _ b) (e : b = _) => absurd hb.1 (by rw [e]; exact Nat.not_le.2 (blk_lt (Ext.block ((hz19.t ((Ext.refl _).drew)).t hz20) HGB.out)))), fun b hb => ⟨Nat.le_trans (((hx.t hz19).t ((Ext.refl _).drew)).t hz20).size hb.1, by rw [hsq]; exact hb.2, (fun b (hb : rng _ _ b) (e : b = _) => absurd hb.1 (by rw [e]; exact Nat.not_le.2 (blk_lt (Ext.block ((hz19.t ((Ext.refl _).drew)).t hz20) HGB.out)))) b hb⟩⟩, Lib.hid (by rw [← HGS.out, ← HFG.out]; exact HRL.out), HAP, HAS, HN2.out, ((((hx.t hz19).t ((Ext.refl _).drew)).t hz20).t hz21).chg1 hcq hge⟩
          ·
           have bl2 : (z.hi == ((curPart z).hops.length : Int) - 1) = true := bl
           have bl3 : decide (z.pi < (z.path.parts.length : Int) - 1) = false := by
            have h := bal; unfold atLast at h; rw [bl, decide_eq_true (show 0 ≤ curAs z by omega)] at h; have h2 : (z.pi == (z.path.parts.length : Int) - 1) = true := by simpa using h
            first | (rw [beq_eq_false_iff_ne] at h2; exact decide_eq_true (by omega)) | (rw [beq_iff_eq] at h2; exact decide_eq_false (by omega))
           have cf132 := blk2 (Ext.block ((((hz1.t hz3).t hz5).t hz7).t hx) HB0.out.1); have cf133 := blk10 (Ext.block ((((hz1.t hz3).t hz5).t hz7).t hx) HB0.out.2.1); have cf134 := blk12 (Ext.block ((((hz1.t hz3).t hz5).t hz7).t hx) HB0.out.2.2); have cf135 := blk10 HGB.out; have cf136 := Part.at_ext (((((hx0.t hz1).t hz3).t hz5).t hz7).t hx) hc
           go_wp2_with fail
           refine wp_region_ext (by kernel_rfl) (by kernel_rfl) ?_; have q0 := ExtW.cell (cf132.1); have q1 := ExtW.cell (cf132.2); have q2 := ExtW.cell (cf133.1); have q3 := ExtW.cell (cf133.2.1); have q4 := ExtW.cell (cf133.2.2.1); have q5 := ExtW.cell (cf133.2.2.2.1); have q6 := ExtW.cell (cf133.2.2.2.2.1); have q7 := ExtW.cell (cf133.2.2.2.2.2.1); have q8 := ExtW.cell (cf133.2.2.2.2.2.2.1); have q9 := ExtW.cell (cf133.2.2.2.2.2.2.2.1); have q10 := ExtW.cell (cf133.2.2.2.2.2.2.2.2.1); have q11 := ExtW.cell (cf133.2.2.2.2.2.2.2.2.2); have q12 := ExtW.cell (cf134.1); have q13 := ExtW.cell (cf134.2.1); have q14 := ExtW.cell (cf134.2.2.1); have q15 := ExtW.cell (cf134.2.2.2.1); have q16 := ExtW.cell (cf134.2.2.2.2.1); have q17 := ExtW.cell (cf134.2.2.2.2.2.1); have q18 := ExtW.cell (cf134.2.2.2.2.2.2.1); have q19 := ExtW.cell (cf134.2.2.2.2.2.2.2.1); have q20 := ExtW.cell (cf134.2.2.2.2.2.2.2.2.1); have q21 := ExtW.cell (cf134.2.2.2.2.2.2.2.2.2.1); have q22 := ExtW.cell (cf134.2.2.2.2.2.2.2.2.2.2.1); have q23 := ExtW.cell (cf134.2.2.2.2.2.2.2.2.2.2.2); have q24 := ExtW.cell (cf135.1); have q25 := ExtW.cell (cf135.2.1); have q26 := ExtW.cell (cf135.2.2.1); have q27 := ExtW.cell (cf135.2.2.2.1); have q28 := ExtW.cell (cf135.2.2.2.2.1); have q29 := ExtW.cell (cf135.2.2.2.2.2.1); have q30 := ExtW.cell (cf135.2.2.2.2.2.2.1); have q31 := ExtW.cell (cf135.2.2.2.2.2.2.2.1); have q32 := ExtW.cell (cf135.2.2.2.2.2.2.2.2.1); have q33 := ExtW.cell (cf135.2.2.2.2.2.2.2.2.2)
           have q34 := ExtW.cell (cf136.1); have q35 := ExtW.cell (cf136.2.1); have q36 := ExtW.cell (cf136.2.2.1); have q37 := ExtW.cell (cf136.2.2.2); have q38 := ExtW.cell (hcc.1); have q39 := ExtW.cell (hcc.2.1); have q40 := ExtW.cell (hcc.2.2.1); have q41 := ExtW.cell (hcc.2.2.2)
           repeat (first | go_big_quiet_step ((fail)) | quiet_step ((fail)))
           refine wpQuiet_nil ?_; intro w22 hw22; have hz22 := ExtW.out hw22; clear hw22 q0 q1 q2 q3 q4 q5 q6 q7 q8 q9 q10 q11 q12 q13 q14 q15 q16 q17 q18 q19 q20 q21 q22 q23 q24 q25 q26 q27 q28 q29 q30 q31 q32 q33 q34 q35 q36 q37 q38 q39 q40 q41; clear hw1 hw2 bl2 bl3; have HC : Hid (chkAll t now x.path.parts.length x = (0, z)) := Lib.hid (HCH.out.2 ((HSTP.out (by rw [bal]; simp)).trans (by rw [K0.out]))); have HF := Lib.hid (fw_del (r := r) (dead := dead) (inn := inn) HB.out HW.out HC.out bal)
           try clear cf132
           try clear cf133
           try clear cf134
           try clear cf135
           try clear cf136
           have cf137 := blk2 (Ext.block (((((hz1.t hz3).t hz5).t hz7).t hx).t hz22) HB0.out.1); have cf138 := blk10 (Ext.block (((((hz1.t hz3).t hz5).t hz7).t hx).t hz22) HB0.out.2.1); have cf139 := blk12 (Ext.block (((((hz1.t hz3).t hz5).t hz7).t hx).t hz22) HB0.out.2.2); have cf140 := blk10 (Ext.block hz22 HGB.out); have cf141 := Part.at_ext ((((((hx0.t hz1).t hz3).t hz5).t hz7).t hx).t hz22) hc; have cf142 := Part.at_ext hz22 hcc
           go_wp2_with fail
           refine (s_AtLastHop z _ _ _ (rz0.ext hz22)).mono ?_; rintro e w23 ⟨rfl, hz23⟩; rw [bal]
           cases bd : (z.dst == r)
           ·
            have bd' : (z.dst != r) = true := by simp only [bne, bd]; rfl
            have HE := Lib.hid (HF.out.trans (by rw [bd]))
            try clear cf137
            try clear cf138
            try clear cf139
            try clear cf140
            try clear cf141
            try clear cf142
            have cf143 := blk2 (Ext.block ((((((hz1.t hz3).t hz5).t hz7).t hx).t hz22).t hz23) HB0.out.1); have cf144 := blk10 (Ext.block ((((((hz1.t hz3).t hz5).t hz7).t hx).t hz22).t hz23) HB0.out.2.1); have cf145 := blk12 (Ext.block ((((((hz1.t hz3).t hz5).t hz7).t hx).t hz22).t hz23) HB0.out.2.2); have cf146 := blk10 (Ext.block (hz22.t hz23) HGB.out); have cf147 := Part.at_ext (((((((hx0.t hz1).t hz3).t hz5).t hz7).t hx).t hz22).t hz23) hc; have cf148 := Part.at_ext (hz22.t hz23) hcc
            go_wp2_with fail
            refine (s_AtLastHop z _ _ _ (rz0.ext (hz22.t hz23))).mono ?_; rintro e w24 ⟨rfl, hz24⟩; rw [bal]
            try clear cf143
            try clear cf144
            try clear cf145
            try clear cf146
            try clear cf147
            try clear cf148
            have cf149 := blk2 (Ext.block (((((((hz1.t hz3).t hz5).t hz7).t hx).t hz22).t hz23).t hz24) HB0.out.1); have cf150 := blk10 (Ext.block (((((((hz1.t hz3).t hz5).t hz7).t hx).t hz22).t hz23).t hz24) HB0.out.2.1); have cf151 := blk12 (Ext.block (((((((hz1.t hz3).t hz5).t hz7).t hx).t hz22).t hz23).t hz24) HB0.out.2.2); have cf152 := blk10 (Ext.block ((hz22.t hz23).t hz24) HGB.out); have cf153 := Part.at_ext ((((((((hx0.t hz1).t hz3).t hz5).t hz7).t hx).t hz22).t hz23).t hz24) hc; have cf154 := Part.at_ext ((hz22.t hz23).t hz24) hcc
            go_wp2_with fail
            refine (s_l28No (2) x _ _ _ (r0.ext ((((((((hx0.t hz1).t hz3).t hz5).t hz7).t hx).t hz22).t hz23).t hz24)) (r1.ext ((((((((hx0.t hz1).t hz3).t hz5).t hz7).t hx).t hz22).t hz23).t hz24)) hl).mono ?_; rintro e w25 ⟨u0, u1, rfl, oo, hz25⟩; obtain ⟨oa, ca, rfl, _⟩ := (Pkt.own_rd0 oo).shape; obtain ⟨ob, cb, rfl, _⟩ := (Pkt.own_rd1 oo).shape; have hs1 : w.heap.size + 1 + 1 + 1 ≤ w24.heap.size := by simpa using (((((((hz1.t hz3).t hz5).t hz7).t hx).t hz22).t hz23).t hz24).size
            have OX := Lib.hid oo; clear oo; have hR := Ext.block ((((((((hz1.t hz3).t hz5).t hz7).t hx).t hz22).t hz23).t hz24).t hz25) HB0.out.2.2; obtain ⟨wc, hwc, hrc, hcc, hsc⟩ := vd_set hR (.int .i64 (2)) (.int .i64 0) (.int .i64 x.kind) (.int .i64 x.src) (.int .i64 x.dst) ((.slice oa x.path.parts.length ca)) (.int .i64 x.pi) (.int .i64 x.hi) (.int .i64 x.beta) (.int .i64 x.rid) (.int .i64 x.seq) ((.slice ob x.pay.length cb)); have HOW := Lib.hid (Pkt.own_kept OX.out hcc (fun b hb e => by have h1 := hb.1; have h2 := hb.2; have h3 := hs1; ((try simp at h1) <;> omega))); have HXX := Lib.hid ((((((((((hx0.t hz1).t hz3).t hz5).t hz7).t hx).t hz22).t hz23).t hz24).t hz25).chg1 hcc (by omega)); have HWC := Lib.hid hwc; have HRC := Lib.hid hrc; have hsz2 : w25.heap.size = wc.heap.size := by rw [hsc]
            have hRF := fun o => fr_of hR o
            have gr0 := hRF 0; have gr1 := hRF 1; have gr2 := hRF 2; have gr3 := hRF 3; have gr4 := hRF 4; have gr5 := hRF 5; have gr6 := hRF 6; have gr7 := hRF 7; have gr8 := hRF 8; have gr9 := hRF 9; have gr10 := hRF 10; have gr11 := hRF 11; clear hRF hR  hwc hrc hcc hsc
            try clear cf149
            try clear cf150
            try clear cf151
            try clear cf152
            try clear cf153
            try clear cf154
            have cf155 := blk2 (Ext.block ((((((((hz1.t hz3).t hz5).t hz7).t hx).t hz22).t hz23).t hz24).t hz25) HB0.out.1); have cf156 := blk10 (Ext.block ((((((((hz1.t hz3).t hz5).t hz7).t hx).t hz22).t hz23).t hz24).t hz25) HB0.out.2.1); have cf157 := blk12 (Ext.block ((((((((hz1.t hz3).t hz5).t hz7).t hx).t hz22).t hz23).t hz24).t hz25) HB0.out.2.2); have cf158 := blk10 (Ext.block (((hz22.t hz23).t hz24).t hz25) HGB.out); have cf159 := Part.at_ext (((((((((hx0.t hz1).t hz3).t hz5).t hz7).t hx).t hz22).t hz23).t hz24).t hz25) hc; have cf160 := Part.at_ext (((hz22.t hz23).t hz24).t hz25) hcc
            go_wp2_with fail
            rw [← HWC.out]; clear gr0 gr1 gr2 gr3 gr4 gr5 gr6 gr7 gr8 gr9 gr10 gr11 cf155 cf156 cf157 cf158 cf159 cf160; have cc := blk12 HRC.out; refine bodyPost_ret (v := .agg #[.int .i64 (2), .int .i64 0, .int .i64 x.kind, .int .i64 x.src, .int .i64 x.dst, (.slice oa x.path.parts.length ca), .int .i64 x.pi, .int .i64 x.hi, .int .i64 x.beta, .int .i64 x.rid, .int .i64 x.seq, (.slice ob x.pay.length cb)]) (by simp [results, Tryz.results38, go_sem, cc]) rfl ?_; rw [HE.out]; exact ⟨_, _, rfl, Pkt.own_mono HOW.out (fun b hb => ⟨by have h1 := hb.1; have h3 := hs1; omega, by have h2 := hb.2; omega⟩), HXX.out⟩
           ·
            have bd' : (z.dst != r) = false := by simp only [bne, bd]; rfl
            have HE := Lib.hid (HF.out.trans (by rw [bd])); have hs1 : w.heap.size + 1 + 1 + 1 ≤ w7.heap.size := by simpa using (((hz1.t hz3).t hz5).t hz7).size
            have hs9 := (hz22.t hz23).size; have hR := Ext.block ((((((hz1.t hz3).t hz5).t hz7).t hx).t hz22).t hz23) HB0.out.2.2; obtain ⟨wc, hwc, hrc, hcc, hsc⟩ := vd_set hR (.int .i64 1) (.int .i64 0) (.int .i64 z.kind) (.int .i64 z.src) (.int .i64 z.dst) ((.slice (some ⟨bz, offz, none⟩) z.path.parts.length c0)) (.int .i64 z.pi) (.int .i64 z.hi) (.int .i64 z.beta) (.int .i64 z.rid) (.int .i64 z.seq) ((.slice o1 z.pay.length c1)); have HOW := Lib.hid (Pkt.own_kept (Pkt.own_ext OZ.out (hz22.t hz23)) hcc (fun b hb e => by have h1 := (hS b hb).1; have h3 := hs1; ((try simp at e) <;> omega))); have HXX := Lib.hid ((((((((hx0.t hz1).t hz3).t hz5).t hz7).t hx).t hz22).t hz23).chg1 hcc (by omega)); have HWC := Lib.hid hwc; have HRC := Lib.hid hrc; have hsz2 : w23.heap.size = wc.heap.size := by rw [hsc]
            have hRF := fun o => fr_of hR o
            have gr0 := hRF 0; have gr1 := hRF 1; have gr2 := hRF 2; have gr3 := hRF 3; have gr4 := hRF 4; have gr5 := hRF 5; have gr6 := hRF 6; have gr7 := hRF 7; have gr8 := hRF 8; have gr9 := hRF 9; have gr10 := hRF 10; have gr11 := hRF 11; clear hRF hR  hwc hrc hcc hsc
            try clear cf137
            try clear cf138
            try clear cf139
            try clear cf140
            try clear cf141
            try clear cf142
            have cf161 := blk2 (Ext.block ((((((hz1.t hz3).t hz5).t hz7).t hx).t hz22).t hz23) HB0.out.1); have cf162 := blk10 (Ext.block ((((((hz1.t hz3).t hz5).t hz7).t hx).t hz22).t hz23) HB0.out.2.1); have cf163 := blk12 (Ext.block ((((((hz1.t hz3).t hz5).t hz7).t hx).t hz22).t hz23) HB0.out.2.2); have cf164 := blk10 (Ext.block (hz22.t hz23) HGB.out); have cf165 := Part.at_ext (((((((hx0.t hz1).t hz3).t hz5).t hz7).t hx).t hz22).t hz23) hc; have cf166 := Part.at_ext (hz22.t hz23) hcc
            go_wp2_with fail
            rw [← HWC.out]; clear gr0 gr1 gr2 gr3 gr4 gr5 gr6 gr7 gr8 gr9 gr10 gr11 cf161 cf162 cf163 cf164 cf165 cf166; have cc := blk12 HRC.out; refine bodyPost_ret (v := .agg #[.int .i64 1, .int .i64 0, .int .i64 z.kind, .int .i64 z.src, .int .i64 z.dst, (.slice (some ⟨bz, offz, none⟩) z.path.parts.length c0), .int .i64 z.pi, .int .i64 z.hi, .int .i64 z.beta, .int .i64 z.rid, .int .i64 z.seq, (.slice o1 z.pay.length c1)]) (by simp [results, Tryz.results38, go_sem, cc]) rfl ?_; rw [HE.out]; exact ⟨_, _, rfl, Pkt.own_mono HOW.out (fun b hb => ⟨by have h1 := (hS b hb).1; have h3 := hs1; omega, by have h2 := (hS b hb).2.1; omega⟩), HXX.out⟩
        ·
         have HC : Hid (chkAll t now x.path.parts.length x = (chkCode t now y, verCur t y)) := Lib.hid (HRL.out.symm.trans (chk_stop (by simp [k0]))); have HE := Lib.hid (fw_chk (r := r) (dead := dead) (inn := inn) HB.out HW.out HC.out k0); generalize chkCode t now y = cd at *; have k1 : (cd == 0) = false := by rw [beq_eq_false_iff_ne]; exact k0
         have k2 : (cd != 0) = true := by simp only [bne, k1]; rfl
         have cf167 := blk2 (Ext.block ((((hz1.t hz3).t hz5).t hz7).t hx) HB0.out.1); have cf168 := blk10 (Ext.block ((((hz1.t hz3).t hz5).t hz7).t hx) HB0.out.2.1); have cf169 := blk12 (Ext.block ((((hz1.t hz3).t hz5).t hz7).t hx) HB0.out.2.2); have cf170 := blk10 HGB.out; have cf171 := Part.at_ext (((((hx0.t hz1).t hz3).t hz5).t hz7).t hx) hc
         go_wp2_with fail
         refine wp_region_ext (by kernel_rfl) (by kernel_rfl) ?_; have q0 := ExtW.cell (cf167.1); have q1 := ExtW.cell (cf167.2); have q2 := ExtW.cell (cf168.1); have q3 := ExtW.cell (cf168.2.1); have q4 := ExtW.cell (cf168.2.2.1); have q5 := ExtW.cell (cf168.2.2.2.1); have q6 := ExtW.cell (cf168.2.2.2.2.1); have q7 := ExtW.cell (cf168.2.2.2.2.2.1); have q8 := ExtW.cell (cf168.2.2.2.2.2.2.1); have q9 := ExtW.cell (cf168.2.2.2.2.2.2.2.1); have q10 := ExtW.cell (cf168.2.2.2.2.2.2.2.2.1); have q11 := ExtW.cell (cf168.2.2.2.2.2.2.2.2.2); have q12 := ExtW.cell (cf169.1); have q13 := ExtW.cell (cf169.2.1); have q14 := ExtW.cell (cf169.2.2.1); have q15 := ExtW.cell (cf169.2.2.2.1); have q16 := ExtW.cell (cf169.2.2.2.2.1); have q17 := ExtW.cell (cf169.2.2.2.2.2.1); have q18 := ExtW.cell (cf169.2.2.2.2.2.2.1); have q19 := ExtW.cell (cf169.2.2.2.2.2.2.2.1); have q20 := ExtW.cell (cf169.2.2.2.2.2.2.2.2.1); have q21 := ExtW.cell (cf169.2.2.2.2.2.2.2.2.2.1); have q22 := ExtW.cell (cf169.2.2.2.2.2.2.2.2.2.2.1); have q23 := ExtW.cell (cf169.2.2.2.2.2.2.2.2.2.2.2); have q24 := ExtW.cell (cf170.1); have q25 := ExtW.cell (cf170.2.1); have q26 := ExtW.cell (cf170.2.2.1); have q27 := ExtW.cell (cf170.2.2.2.1); have q28 := ExtW.cell (cf170.2.2.2.2.1); have q29 := ExtW.cell (cf170.2.2.2.2.2.1); have q30 := ExtW.cell (cf170.2.2.2.2.2.2.1); have q31 := ExtW.cell (cf170.2.2.2.2.2.2.2.1); have q32 := ExtW.cell (cf170.2.2.2.2.2.2.2.2.1); have q33 := ExtW.cell (cf170.2.2.2.2.2.2.2.2.2)
         have q34 := ExtW.cell (cf171.1); have q35 := ExtW.cell (cf171.2.1); have q36 := ExtW.cell (cf171.2.2.1); have q37 := ExtW.cell (cf171.2.2.2)
         repeat (first | go_big_quiet_step ((fail)) | quiet_step ((fail)))
         refine wpQuiet_nil ?_; intro w26 hw26; have hz26 := ExtW.out hw26; clear hw26 q0 q1 q2 q3 q4 q5 q6 q7 q8 q9 q10 q11 q12 q13 q14 q15 q16 q17 q18 q19 q20 q21 q22 q23 q24 q25 q26 q27 q28 q29 q30 q31 q32 q33 q34 q35 q36 q37
         try clear cf167
         try clear cf168
         try clear cf169
         try clear cf170
         try clear cf171
         have cf172 := blk2 (Ext.block (((((hz1.t hz3).t hz5).t hz7).t hx).t hz26) HB0.out.1); have cf173 := blk10 (Ext.block (((((hz1.t hz3).t hz5).t hz7).t hx).t hz26) HB0.out.2.1); have cf174 := blk12 (Ext.block (((((hz1.t hz3).t hz5).t hz7).t hx).t hz26) HB0.out.2.2); have cf175 := blk10 (Ext.block hz26 HGB.out); have cf176 := Part.at_ext ((((((hx0.t hz1).t hz3).t hz5).t hz7).t hx).t hz26) hc
         go_wp2_with fail
         refine (s_l28No (cd) x _ _ _ (r0.ext ((((((hx0.t hz1).t hz3).t hz5).t hz7).t hx).t hz26)) (r1.ext ((((((hx0.t hz1).t hz3).t hz5).t hz7).t hx).t hz26)) hl).mono ?_; rintro e w27 ⟨u0, u1, rfl, oo, hz27⟩; obtain ⟨oa, ca, rfl, _⟩ := (Pkt.own_rd0 oo).shape; obtain ⟨ob, cb, rfl, _⟩ := (Pkt.own_rd1 oo).shape; have hs1 : w.heap.size + 1 + 1 + 1 ≤ w26.heap.size := by simpa using (((((hz1.t hz3).t hz5).t hz7).t hx).t hz26).size
         have OX := Lib.hid oo; clear oo; have hR := Ext.block ((((((hz1.t hz3).t hz5).t hz7).t hx).t hz26).t hz27) HB0.out.2.2; obtain ⟨wc, hwc, hrc, hcc, hsc⟩ := vd_set hR (.int .i64 (cd)) (.int .i64 0) (.int .i64 x.kind) (.int .i64 x.src) (.int .i64 x.dst) ((.slice oa x.path.parts.length ca)) (.int .i64 x.pi) (.int .i64 x.hi) (.int .i64 x.beta) (.int .i64 x.rid) (.int .i64 x.seq) ((.slice ob x.pay.length cb)); have HOW := Lib.hid (Pkt.own_kept OX.out hcc (fun b hb e => by have h1 := hb.1; have h2 := hb.2; have h3 := hs1; ((try simp at h1) <;> omega))); have HXX := Lib.hid ((((((((hx0.t hz1).t hz3).t hz5).t hz7).t hx).t hz26).t hz27).chg1 hcc (by omega)); have HWC := Lib.hid hwc; have HRC := Lib.hid hrc; have hsz2 : w27.heap.size = wc.heap.size := by rw [hsc]
         have hRF := fun o => fr_of hR o
         have gr0 := hRF 0; have gr1 := hRF 1; have gr2 := hRF 2; have gr3 := hRF 3; have gr4 := hRF 4; have gr5 := hRF 5; have gr6 := hRF 6; have gr7 := hRF 7; have gr8 := hRF 8; have gr9 := hRF 9; have gr10 := hRF 10; have gr11 := hRF 11; clear hRF hR  hwc hrc hcc hsc
         try clear cf172
         try clear cf173
         try clear cf174
         try clear cf175
         try clear cf176
         have cf177 := blk2 (Ext.block ((((((hz1.t hz3).t hz5).t hz7).t hx).t hz26).t hz27) HB0.out.1); have cf178 := blk10 (Ext.block ((((((hz1.t hz3).t hz5).t hz7).t hx).t hz26).t hz27) HB0.out.2.1); have cf179 := blk12 (Ext.block ((((((hz1.t hz3).t hz5).t hz7).t hx).t hz26).t hz27) HB0.out.2.2); have cf180 := blk10 (Ext.block (hz26.t hz27) HGB.out); have cf181 := Part.at_ext (((((((hx0.t hz1).t hz3).t hz5).t hz7).t hx).t hz26).t hz27) hc
         go_wp2_with fail
         rw [← HWC.out]; clear gr0 gr1 gr2 gr3 gr4 gr5 gr6 gr7 gr8 gr9 gr10 gr11 cf177 cf178 cf179 cf180 cf181; have cc := blk12 HRC.out; refine bodyPost_ret (v := .agg #[.int .i64 (cd), .int .i64 0, .int .i64 x.kind, .int .i64 x.src, .int .i64 x.dst, (.slice oa x.path.parts.length ca), .int .i64 x.pi, .int .i64 x.hi, .int .i64 x.beta, .int .i64 x.rid, .int .i64 x.seq, (.slice ob x.pay.length cb)]) (by simp [results, Tryz.results38, go_sem, cc]) rfl ?_; rw [HE.out]; exact ⟨_, _, rfl, Pkt.own_mono HOW.out (fun b hb => ⟨by have h1 := hb.1; have h3 := hs1; omega, by have h2 := hb.2; omega⟩), HXX.out⟩
end
end Go.Proofs.YtcpfmhgfaliemaaGreat
