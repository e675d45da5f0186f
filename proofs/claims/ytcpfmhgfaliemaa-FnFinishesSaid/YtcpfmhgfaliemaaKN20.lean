/- What these laws need: FnFinishes: Contracts of policies and of grown segments: the least, expiries, ASes, codes, copies, what a policy permits, who can extend. The default policy and the draw of a policy. -/
import Derived.Test.YtcpfmhgfaliemaaKN19
namespace Go.Proofs.Ytcpfmhgfaliemaa
section
open Go.ChangeShapes Go.WideShapes Go.ChangeAt Go.RowKit Go.Deep
theorem validSeg_pos {t : Topo} {s : Seg} (h : validSeg t s = true) : 0 < s.hops.length := by
 unfold validSeg wfSeg hopsOk at h
 simp only [Bool.and_eq_true] at h
 have h1 := (inR_true.1 h.1.1.1.1.1.1.1).1
 omega
theorem hopl_ext {w w' : World} (h : Ext w w') {p0 p1 p2 p3 p4 : Addr} {a b c d e : Value} (k : w.cell? p0 = some a ∧ w.cell? p1 = some b ∧ w.cell? p2 = some c ∧ w.cell? p3 = some d ∧ w.cell? p4 = some e) : w'.cell? p0 = some a ∧ w'.cell? p1 = some b ∧ w'.cell? p2 = some c ∧ w'.cell? p3 = some d ∧ w'.cell? p4 = some e :=
 ⟨Ext.cell h k.1, Ext.cell h k.2.1, Ext.cell h k.2.2.1, Ext.cell h k.2.2.2.1, Ext.cell h k.2.2.2.2⟩
set_option maxHeartbeats 400000 in
theorem i_Min (a b : Int) (w : World) :
  Calls Try.prog 113 #[.int .i64 a, .int .i64 b] w fun e w' => e = .returned (.int .i64 (if b < a then b else a)) ∧ w = w' := by
 go_enter Try.func113, Try.ntmps113
 by_cases h : b < a
 ·
  go_wp2_with fail
  go_ret
  exact ⟨ret_int (by first | rfl | (simp [*]; done) | (simp only [Int.min_def]; split <;> split <;> omega) | (simp [*]; omega)), rfl⟩
 ·
  go_wp2_with fail
  go_ret
  exact ⟨ret_int (by first | rfl | (simp [*]; done) | (simp only [Int.min_def]; split <;> split <;> omega) | (simp [*]; omega)), rfl⟩
set_option maxHeartbeats 400000 in
theorem i_ExpiryFor (p : Pol) (ts : Int) (w : World) :
  Calls Try.prog 89 #[.agg #[.int .i64 p.most, .int .i64 p.den, .int .i64 p.clo, .int .i64 p.life], .int .i64 ts] w fun e w' => e = .returned (.int .i64 (expFor p ts)) ∧ Ext w w' := by
 have hx0 : Ext w (w.alloc (.cells #[.int .i64 p.most, .int .i64 p.den, .int .i64 p.clo, .int .i64 p.life] 57)) := (Ext.refl _).alloc _
 have HB0 := Lib.hid (blk_new w (.cells #[.int .i64 p.most, .int .i64 p.den, .int .i64 p.clo, .int .i64 p.life] 57))
 go_enter Try.func89, Try.ntmps89
 have cf1 := blk4 HB0.out
 go_wp2_with fail
 refine (i_Min (wrap64 (ts + p.life)) 1000000 _).mono ?_
 rintro e _ ⟨rfl, rfl⟩
 rw [show (if (1000000 : Int) < wrap64 (ts + p.life) then (1000000 : Int) else wrap64 (ts + p.life)) = expFor p ts from rfl]
 obtain ⟨ev, hev⟩ : ∃ ev, ev = expFor p ts := ⟨_, rfl⟩
 rw [← hev]
 have HEV := Lib.hid hev
 clear hev
 go_wp2_with fail
 go_ret
 exact ⟨ret_int HEV.out, hx0⟩
set_option maxHeartbeats 400000 in
theorem s_ExpiryFor (p : Pol) (ts : Int) (w : World) :
  Calls Try.prog 96 #[.agg #[.int .i64 p.most, .int .i64 p.den, .int .i64 p.clo, .int .i64 p.life], .int .i64 ts] w fun e w' => e = .returned (.int .i64 (expFor p ts)) ∧ Ext w w' := by
 have hx0 : Ext w (w.alloc (.cells #[.int .i64 p.most, .int .i64 p.den, .int .i64 p.clo, .int .i64 p.life] 57)) := (Ext.refl _).alloc _
 have HB0 := Lib.hid (blk_new w (.cells #[.int .i64 p.most, .int .i64 p.den, .int .i64 p.clo, .int .i64 p.life] 57))
 go_enter Try.func96, Try.ntmps96
 have cf1 := blk4 HB0.out
 go_wp2_with fail
 refine (s_Min (wrap64 (ts + p.life)) 1000000 _).mono ?_
 rintro e _ ⟨rfl, rfl⟩
 rw [show (if (1000000 : Int) < wrap64 (ts + p.life) then (1000000 : Int) else wrap64 (ts + p.life)) = expFor p ts from rfl]
 obtain ⟨ev, hev⟩ : ∃ ev, ev = expFor p ts := ⟨_, rfl⟩
 rw [← hev]
 have HEV := Lib.hid hev
 clear hev
 go_wp2_with fail
 go_ret
 exact ⟨ret_int HEV.out, hx0⟩
set_option maxRecDepth 100000 in
set_option maxHeartbeats 1000000 in
theorem i_asesOf (l : List Hop) (v : Value) (w : World) (r : RdS Hop.rep w v l) (hl : l.length ≤ 1048576) :
  Calls Try.prog 99 #[v] w fun e w' => ∃ v', e = .returned v' ∧ OwnF intF 1 w.heap.size 3 w' v' (l.map (·.asn)) ∧ Ext w w' := by
 obtain ⟨o, cap, rfl, hsm⟩ := r.shape
 obtain ⟨E⟩ := elemInt
 obtain ⟨ml, hml⟩ : ∃ ml, ml = l.map (·.asn) := ⟨_, rfl⟩
 have hlm : ml.length = l.length := by rw [hml]; simp
 have HAT : Hid (∀ (k : Nat) (h : k < ml.length) (h' : k < l.length), ml[k] = l[k].asn) := Lib.hid (by intro k h h'; subst hml; simp)
 rw [← hml]
 clear hml
 have HLM := Lib.hid hlm; clear hlm
 go_enter Try.func99, Try.ntmps99
 have ho0 := OwnF.nil intF 1 w.heap.size 3 w
 go_wp2
 go_loopg [3, 8] l.length (fun gk out i wr => ∃ k : Nat, gk + k = l.length ∧ i = .int .i64 k ∧ OwnF intF 1 w.heap.size 3 wr out (ml.take k) ∧ Ext w wr)
 case atStart => exact ⟨0, by omega, rfl, by simpa using ho0, Ext.refl _⟩
 case round =>
  obtain ⟨k, hgk, rfl, hown, hx⟩ := hrel
  clear ho0
  by_cases hlt : k < l.length
  ·
   have hg' : gk - 1 + (k + 1) = l.length ∧ gk - 1 < gk := by omega
   have HG := Lib.hid hg'; clear hg' hgk
   have hlx : k < l.length := by omega
   obtain ⟨b, off, rfl, hc⟩ := Hop.at (r.ext hx) k hlx
   have hkm : k < ml.length := by rw [HLM.out]; exact hlt
   have HS := Lib.hid (show ml.take k ++ [l[k].asn] = ml.take (k + 1) by rw [List.take_succ_eq_append_getElem hkm, HAT.out k hkm hlx])
   have hln : (ml.take k).length ≤ k := List.length_take_le _ _
   clear hkm
   go_wp2_with (at_builtin; refine app1 E intFlen intOne rfl _ _ rfl l[k].asn rfl (hown.ext (((Ext.refl _).alloc _).alloc _)) rfl (by exact blk_list (intF l[k].asn) (blk_new2 wr _ _)) (by omega) (by unfold maxLen; omega) (by have := ((hx.alloc (.cells #[.int .i64 l[k].asn, .int .i64 l[k].ing, .int .i64 l[k].eg, .int .i64 l[k].exp, .int .i64 l[k].mac] 108)).alloc (.cells #[.int .i64 l[k].asn] 3)).size; simpa using this) ?_)
   intro v' w' ho' hg'
   have hx' := ((hx.alloc (.cells #[.int .i64 l[k].asn, .int .i64 l[k].ing, .int .i64 l[k].eg, .int .i64 l[k].exp, .int .i64 l[k].mac] 108)).alloc (.cells #[.int .i64 l[k].asn] 3)).app (e := 3) hg' hown (by simp)
   rw [HS.out] at ho'
   clear hg' hown
   go_wp2_with fail
   go_roundg (gk - 1)
   case measure => exact HG.out.2
   case rel => exact ⟨k + 1, HG.out.1, by go_num, ho', hx'⟩
  ·
   have HXS := Lib.hid (show ml.take k = ml by rw [List.take_of_length_le (by rw [HLM.out]; omega)])
   rw [HXS.out] at hown
   go_wp2_with fail
   go_ret
   exact ⟨_, rfl, hown, hx⟩
set_option maxRecDepth 100000 in
set_option maxHeartbeats 1000000 in
theorem i_SegmentASes (s : Seg) (v : Value) (w : World) (r : RdS Hop.rep w v s.hops) (hl : s.hops.length ≤ 1048576) :
  Calls Try.prog 58 #[.agg #[.int .i64 s.ts, .int .i64 s.beta, v]] w fun e w' => ∃ v', e = .returned v' ∧ OwnF intF 1 w.heap.size 3 w' v' (s.hops.map (·.asn)) ∧ Ext w w' := by
 obtain ⟨o, cap, rfl, hsm⟩ := r.shape
 obtain ⟨ml, hml⟩ : ∃ ml, ml = s.hops.map (·.asn) := ⟨_, rfl⟩
 rw [← hml]
 have HML := Lib.hid hml
 clear hml
 have hx0 : Ext w (w.alloc (.cells #[.int .i64 s.ts, .int .i64 s.beta, .slice o s.hops.length cap] 60)) := (Ext.refl _).alloc _
 have HB0 := Lib.hid (blk_new w (.cells #[.int .i64 s.ts, .int .i64 s.beta, .slice o s.hops.length cap] 60))
 go_enter Try.func58, Try.ntmps58
 have cf1 := blk3 HB0.out
 go_wp2_with fail
 refine (i_asesOf s.hops _ _ (r.ext hx0) hl).mono ?_
 rintro e w1 ⟨vi, rfl, oi, hz1⟩
 rw [← HML.out] at oi
 replace oi := oi.mono (base' := w.heap.size) (by simp)
 obtain ⟨oo, co, rfl, _⟩ := (OwnF.rd (hf := intFlen) oi).shape
 try clear cf1
 have cf2 := blk3 (Ext.block hz1 HB0.out)
 go_wp2_with fail
 go_ret
 exact ⟨_, rfl, oi, (hx0.trans hz1)⟩
set_option maxRecDepth 100000 in
set_option maxHeartbeats 1000000 in
theorem i_AuthenticateHop (key ts beta : Int) (h : Hop) (w : World) :
  Calls Try.prog 90 #[.int .i64 key, .int .i64 ts, .int .i64 beta, .agg #[.int .i64 h.asn, .int .i64 h.ing, .int .i64 h.eg, .int .i64 h.exp, .int .i64 h.mac]] w fun e w' => e = .returned (.agg #[.int .i64 h.asn, .int .i64 h.ing, .int .i64 h.eg, .int .i64 h.exp, .int .i64 (hopMac key ts beta h)]) ∧ Ext w w' := by
 have hx0 := ext2 w (.cells #[.int .i64 h.asn, .int .i64 h.ing, .int .i64 h.eg, .int .i64 h.exp, .int .i64 h.mac] 108) (.cells #[.int .i64 0, .int .i64 0, .int .i64 0, .int .i64 0, .int .i64 0] 108)
 have HB0 := Lib.hid (al2 w (.cells #[.int .i64 h.asn, .int .i64 h.ing, .int .i64 h.eg, .int .i64 h.exp, .int .i64 h.mac] 108) (.cells #[.int .i64 0, .int .i64 0, .int .i64 0, .int .i64 0, .int .i64 0] 108))
 go_enter Try.func90, Try.ntmps90
 have cf1 := blk5 HB0.out.1
 have cf2 := blk5 HB0.out.2
 go_wp2_with fail
 refine (i_HopMAC key ts beta h _).mono ?_
 rintro e w1 ⟨rfl, hz1⟩
 have HX := Lib.hid (hx0.trans hz1)
 have hb1 := Ext.block hz1 HB0.out.2
 have hb2 := Ext.block hz1 HB0.out.1
 obtain ⟨wx, hwx, hbx, hcx⟩ := one_set hb2 4 (.int .i64 (hopMac key ts beta h))
 simp only [List.setIfInBounds_toArray, List.set_cons_succ, List.set_cons_zero] at hbx
 have hb3 := hcx.blkS hb1 (by unfold at1; omega)
 obtain ⟨wq, hwq, hbq, hcq⟩ := rs_set hb3 (.int .i64 h.asn) (.int .i64 h.ing) (.int .i64 h.eg) (.int .i64 h.exp) (.int .i64 (hopMac key ts beta h))
 have HWX := Lib.hid hwx
 have HWQ := Lib.hid hwq
 have HBX := Lib.hid hbx
 have HB3 := Lib.hid hb3
 have HBQ := Lib.hid hbq
 have HE := Lib.hid ((HX.out.chg hcx (fun i hi => by have h1 : i = w.heap.size := hi; omega)).chg hcq (fun i hi => by have h1 : i = w.heap.size + 1 := hi; omega))
 have ff := fr_of hb2 4
 clear hb1 hwx hwq hbx hb3 hbq hcx hcq
 have cg := blk5 hb2
 clear hb2
 go_upto_region 2 with (fail)
 rw [← HWX.out]
 clear ff cg
 have fR0 := fr_of HB3.out 0
 have fR1 := fr_of HB3.out 1
 have fR2 := fr_of HB3.out 2
 have fR3 := fr_of HB3.out 3
 have fR4 := fr_of HB3.out 4
 have cR := blk5 HB3.out
 have cX := blk5 HBX.out
 try clear cf1
 try clear cf2
 go_wp2_with fail
 rw [← HWQ.out]
 clear cR cX fR0 fR1 fR2 fR3 fR4
 have cc := blk5 HBQ.out
 refine bodyPost_ret (v := .agg #[.int .i64 h.asn, .int .i64 h.ing, .int .i64 h.eg, .int .i64 h.exp, .int .i64 (hopMac key ts beta h)]) (by simp [results, Try.results90, go_sem, cc]) rfl ?_
 exact ⟨rfl, HE.out⟩
set_option maxRecDepth 100000 in
set_option maxHeartbeats 2000000 in
theorem i_copySegment (s : Seg) (v : Value) (w : World) (r : RdS Hop.rep w v s.hops) (hl : s.hops.length ≤ 1048576) :
  Calls Try.prog 49 #[.agg #[.int .i64 s.ts, .int .i64 s.beta, v]] w fun e w' => ∃ v', e = .returned (.agg #[.int .i64 s.ts, .int .i64 s.beta, v']) ∧ OwnF Hop.f 5 w.heap.size 108 w' v' s.hops ∧ Ext w w' := by
 obtain ⟨o, cap, rfl, hsm⟩ := r.shape
 have hx0 := ext2 w (.cells #[.int .i64 s.ts, .int .i64 s.beta, .slice o s.hops.length cap] 60) (.cells #[.int .i64 0, .int .i64 0, .slice none 0 0] 60)
 have HB0 := Lib.hid (al2 w (.cells #[.int .i64 s.ts, .int .i64 s.beta, .slice o s.hops.length cap] 60) (.cells #[.int .i64 0, .int .i64 0, .slice none 0 0] 60))
 go_enter Try.func49, Try.ntmps49
 have cf1 := blk3 HB0.out.1
 have cf2 := blk3 HB0.out.2
 go_wp2_with fail
 refine (i_copyHops s.hops _ _ (r.ext hx0) hl).mono ?_
 rintro e w1 ⟨vh, rfl, RH, hz1⟩
 obtain ⟨oh, ch, rfl, _⟩ := (OwnF.rd (hf := Hop.flen) RH).shape
 have HX := Lib.hid (hx0.trans hz1)
 have hb1 := Ext.block hz1 HB0.out.2
 have hb2 := Ext.block hz1 HB0.out.1
 obtain ⟨wx, hwx, hbx, hcx⟩ := one_set hb2 2 (.slice oh s.hops.length ch)
 simp only [List.setIfInBounds_toArray, List.set_cons_succ, List.set_cons_zero] at hbx
 have hb3 := hcx.blkS hb1 (by unfold at1; omega)
 obtain ⟨wq, hwq, hbq, hcq⟩ := three_set hb3 (.int .i64 s.ts) (.int .i64 s.beta) (.slice oh s.hops.length ch)
 have hbase : ∀ q, (Value.slice oh s.hops.length ch).ownBlock = some q → w.heap.size + 2 ≤ q := fun q hq => by have h1 := (RH.block q hq).1; simp at h1; omega
 have HRH := Lib.hid (((RH.chg hcx (fun q hq e => by have h1 := hbase q hq; have h2 : q = w.heap.size := e; omega)).chg hcq (fun q hq e => by have h1 := hbase q hq; have h2 : q = w.heap.size + 1 := e; omega)).mono (base' := w.heap.size) (by simp; omega))
 have HWX := Lib.hid hwx
 have HWQ := Lib.hid hwq
 have HBX := Lib.hid hbx
 have HB3 := Lib.hid hb3
 have HBQ := Lib.hid hbq
 have HE := Lib.hid ((HX.out.chg hcx (fun i hi => by have h1 : i = w.heap.size := hi; omega)).chg hcq (fun i hi => by have h1 : i = w.heap.size + 1 := hi; omega))
 have ff := fr_of hb2 2
 clear hb1 hwx hwq hbx hb3 hbq hcx hcq hbase RH
 have cg := blk3 hb2
 clear hb2
 go_upto_region 2 with (fail)
 rw [← HWX.out]
 clear ff cg
 have fR0 := fr_of HB3.out 0
 have fR1 := fr_of HB3.out 1
 have fR2 := fr_of HB3.out 2
 have cR := blk3 HB3.out
 have cX := blk3 HBX.out
 try clear cf1
 try clear cf2
 go_wp2_with fail
 rw [← HWQ.out]
 clear cR cX fR0 fR1 fR2
 have cc := blk3 HBQ.out
 refine bodyPost_ret (v := .agg #[.int .i64 s.ts, .int .i64 s.beta, .slice oh s.hops.length ch]) (by simp [results, Try.results49, go_sem, cc]) rfl ?_
 exact ⟨_, rfl, HRH.out, HE.out⟩
set_option maxRecDepth 100000 in
set_option maxHeartbeats 4000000 in
theorem i_CanExtend (t : Topo) (v1 v2 : Value) (s : Seg) (v : Value) (rr inn : Int) (w : World) (ha : RdS ASd.rep w v1 t.ases) (hk : RdS Lnk.rep w v2 t.links) (r : RdS Hop.rep w v s.hops) (hl : s.hops.length ≤ 1048576) :
  Calls Try.prog 18 #[.agg #[v1, v2], .agg #[.int .i64 s.ts, .int .i64 s.beta, v], .int .i64 rr, .int .i64 inn] w fun e w' => e = .returned (.bool (canExt t s rr inn)) ∧ Ext w w' := by
 obtain ⟨o, cap, rfl, hsm⟩ := r.shape
 obtain ⟨ml, hml⟩ : ∃ ml, ml = s.hops.map (·.asn) := ⟨_, rfl⟩
 have HML := Lib.hid hml
 clear hml
 have hce : canExt t s rr inn = (isAs t rr && validSeg t s && !(isTerm s) && !(hasI (asns s.hops) rr) && ((remEnd t (lastHop s).asn (lastHop s).eg).1 == rr) && ((remEnd t (lastHop s).asn (lastHop s).eg).2 == inn)) := rfl
 have HCE := Lib.hid hce
 clear hce
 have hx0 := ext2 w (.cells #[v1, v2] 41) (.cells #[.int .i64 s.ts, .int .i64 s.beta, .slice o s.hops.length cap] 60)
 have HB0 := Lib.hid (al2 w (.cells #[v1, v2] 41) (.cells #[.int .i64 s.ts, .int .i64 s.beta, .slice o s.hops.length cap] 60))
 go_enter Try.func18, Try.ntmps18
 have cf1 := blk2 HB0.out.1
 have cf2 := blk3 HB0.out.2
 go_wp2_with fail
 refine (i_isAS t _ _ rr _ (ha.ext hx0)).mono ?_
 rintro e w1 ⟨rfl, hz1⟩
 cases b1 : isAs t rr
 ·
  have HE := Lib.hid (show canExt t s rr inn = false by rw [HCE.out, b1]; rfl)
  try clear cf1
  try clear cf2
  have cf3 := blk2 (Ext.block hz1 HB0.out.1)
  have cf4 := blk3 (Ext.block hz1 HB0.out.2)
  go_wp2_with fail
  go_ret
  exact ⟨ret_bool HE.out.symm, (hx0.trans hz1)⟩
 ·
  try clear cf1
  try clear cf2
  have cf5 := blk2 (Ext.block hz1 HB0.out.1)
  have cf6 := blk3 (Ext.block hz1 HB0.out.2)
  go_wp2_with fail
  refine (i_ValidSegment t _ _ s _ _ (ha.ext (hx0.trans hz1)) (hk.ext (hx0.trans hz1)) (r.ext (hx0.trans hz1)) hl).mono ?_
  rintro e w2 ⟨rfl, hz2⟩
  cases b2 : validSeg t s
  ·
   have HE := Lib.hid (show canExt t s rr inn = false by rw [HCE.out, b1, b2]; rfl)
   try clear cf5
   try clear cf6
   have cf7 := blk2 (Ext.block (hz1.trans hz2) HB0.out.1)
   have cf8 := blk3 (Ext.block (hz1.trans hz2) HB0.out.2)
   go_wp2_with fail
   go_ret
   exact ⟨ret_bool HE.out.symm, ((hx0.trans hz1).trans hz2)⟩
  ·
   try clear cf5
   try clear cf6
   have cf9 := blk2 (Ext.block (hz1.trans hz2) HB0.out.1)
   have cf10 := blk3 (Ext.block (hz1.trans hz2) HB0.out.2)
   go_wp2_with fail
   refine (i_IsTerminated s _ _ (r.ext ((hx0.trans hz1).trans hz2))).mono ?_
   rintro e w3 ⟨rfl, hz3⟩
   cases b3 : isTerm s
   ·
    try clear cf9
    try clear cf10
    have cf11 := blk2 (Ext.block ((hz1.trans hz2).trans hz3) HB0.out.1)
    have cf12 := blk3 (Ext.block ((hz1.trans hz2).trans hz3) HB0.out.2)
    go_wp2_with fail
    refine (i_SegmentASes s _ _ (r.ext (((hx0.trans hz1).trans hz2).trans hz3)) hl).mono ?_
    rintro e w4 ⟨vi, rfl, oi, hz4⟩
    rw [← HML.out] at oi
    have ri := OwnF.rd (hf := intFlen) oi
    clear oi
    obtain ⟨oo, co, rfl, _⟩ := ri.shape
    try clear cf11
    try clear cf12
    have cf13 := blk2 (Ext.block (((hz1.trans hz2).trans hz3).trans hz4) HB0.out.1)
    have cf14 := blk3 (Ext.block (((hz1.trans hz2).trans hz3).trans hz4) HB0.out.2)
    go_wp2_with fail
    refine (i_hasInt ml _ rr _ ri).mono ?_
    rintro e _ ⟨rfl, rfl⟩
    have hbx : hasI ml rr = hasI (asns s.hops) rr := by rw [HML.out]; rfl
    obtain ⟨b4, hb4⟩ : ∃ b, b = hasI ml rr := ⟨_, rfl⟩
    rw [← hb4]
    have B4 := Lib.hid (hb4.trans hbx).symm
    clear hb4 hbx ri
    cases b4
    case false =>
     have hl0 := validSeg_pos b2
     obtain ⟨b, off, rfl, hc⟩ := Hop.at (r.ext ((((hx0.trans hz1).trans hz2).trans hz3).trans hz4)) (s.hops.length - 1) (by omega)
     have hlh : lastHop s = s.hops[s.hops.length - 1] := hopAt_at (by omega)
     obtain ⟨hd, hhd⟩ : ∃ hd, hd = lastHop s := ⟨_, rfl⟩
     rw [← hlh, ← hhd] at hc
     have HHD := Lib.hid hhd
     have hle : ((s.hops.length - 1 : Nat) : Int) = (s.hops.length : Int) - 1 := by omega
     have hl1 : (0 : Int) ≤ (s.hops.length : Int) - 1 := by omega
     have hl2 : ((s.hops.length : Int) - 1).toNat = s.hops.length - 1 := by omega
     clear hlh hhd
     go_upto_region 4 with (fail)
     try clear cf13
     try clear cf14
     have hx9 : Ext w4 (w4.alloc (.cells #[.int .i64 hd.asn, .int .i64 hd.ing, .int .i64 hd.eg, .int .i64 hd.exp, .int .i64 hd.mac] 108)) := (Ext.refl _).alloc _
     have HB9 := Lib.hid (blk_new w4 (.cells #[.int .i64 hd.asn, .int .i64 hd.ing, .int .i64 hd.eg, .int .i64 hd.exp, .int .i64 hd.mac] 108))
     have cf15 := blk2 (Ext.block ((((hz1.trans hz2).trans hz3).trans hz4).trans hx9) HB0.out.1)
     have cf16 := blk3 (Ext.block ((((hz1.trans hz2).trans hz3).trans hz4).trans hx9) HB0.out.2)
     have cf17 := blk5 HB9.out
     go_wp2_with fail
     refine (i_RemoteEnd t _ _ hd.asn hd.eg _ (hk.ext (((((hx0.trans hz1).trans hz2).trans hz3).trans hz4).trans hx9))).mono ?_
     rintro e w6 ⟨rfl, hz6⟩
     obtain ⟨fe, hfe⟩ : ∃ fe, fe = remEnd t hd.asn hd.eg := ⟨_, rfl⟩
     rw [← hfe]
     have HFE : Hid (fe = remEnd t (lastHop s).asn (lastHop s).eg) := Lib.hid (by rw [hfe, HHD.out])
     clear hfe
     cases b5 : (fe.1 == rr)
     ·
      have HE := Lib.hid (show canExt t s rr inn = false by rw [HCE.out, b1, b2, b3, B4.out, ← HFE.out, b5]; rfl)
      try clear cf15
      try clear cf16
      try clear cf17
      have cf18 := blk2 (Ext.block (((((hz1.trans hz2).trans hz3).trans hz4).trans hx9).trans hz6) HB0.out.1)
      have cf19 := blk3 (Ext.block (((((hz1.trans hz2).trans hz3).trans hz4).trans hx9).trans hz6) HB0.out.2)
      have cf20 := blk5 (Ext.block hz6 HB9.out)
      go_wp2_with fail
      go_ret
      exact ⟨ret_bool HE.out.symm, ((((((hx0.trans hz1).trans hz2).trans hz3).trans hz4).trans hx9).trans hz6)⟩
     ·
      have HE := Lib.hid (show canExt t s rr inn = (fe.2 == inn) by rw [HCE.out, b1, b2, b3, B4.out, ← HFE.out, b5]; rfl)
      try clear cf15
      try clear cf16
      try clear cf17
      have cf21 := blk2 (Ext.block (((((hz1.trans hz2).trans hz3).trans hz4).trans hx9).trans hz6) HB0.out.1)
      have cf22 := blk3 (Ext.block (((((hz1.trans hz2).trans hz3).trans hz4).trans hx9).trans hz6) HB0.out.2)
      have cf23 := blk5 (Ext.block hz6 HB9.out)
      go_wp2_with fail
      go_ret
      exact ⟨ret_bool HE.out.symm, ((((((hx0.trans hz1).trans hz2).trans hz3).trans hz4).trans hx9).trans hz6)⟩
    case true =>
     have HE := Lib.hid (show canExt t s rr inn = false by rw [HCE.out, b1, b2, b3, B4.out]; rfl)
     go_wp2_with fail
     go_ret
     exact ⟨ret_bool HE.out.symm, ((((hx0.trans hz1).trans hz2).trans hz3).trans hz4)⟩
   ·
    have HE := Lib.hid (show canExt t s rr inn = false by rw [HCE.out, b1, b2, b3]; rfl)
    try clear cf9
    try clear cf10
    have cf24 := blk2 (Ext.block ((hz1.trans hz2).trans hz3) HB0.out.1)
    have cf25 := blk3 (Ext.block ((hz1.trans hz2).trans hz3) HB0.out.2)
    go_wp2_with fail
    go_ret
    exact ⟨ret_bool HE.out.symm, (((hx0.trans hz1).trans hz2).trans hz3)⟩
set_option maxRecDepth 100000 in
set_option maxHeartbeats 4000000 in
theorem s_CanExtend (t : Topo) (v1 v2 : Value) (s : Seg) (v : Value) (rr inn : Int) (w : World) (ha : RdS ASd.rep w v1 t.ases) (hk : RdS Lnk.rep w v2 t.links) (r : RdS Hop.rep w v s.hops) (hl : s.hops.length ≤ 1048576) :
  Calls Try.prog 51 #[.agg #[v1, v2], .agg #[.int .i64 s.ts, .int .i64 s.beta, v], .int .i64 rr, .int .i64 inn] w fun e w' => e = .returned (.bool (canExt t s rr inn)) ∧ Ext w w' := by
 obtain ⟨o, cap, rfl, hsm⟩ := r.shape
 obtain ⟨ml, hml⟩ : ∃ ml, ml = s.hops.map (·.asn) := ⟨_, rfl⟩
 have HML := Lib.hid hml
 clear hml
 have hce : canExt t s rr inn = (isAs t rr && validSeg t s && !(isTerm s) && !(hasI (asns s.hops) rr) && ((remEnd t (lastHop s).asn (lastHop s).eg).1 == rr) && ((remEnd t (lastHop s).asn (lastHop s).eg).2 == inn)) := rfl
 have HCE := Lib.hid hce
 clear hce
 have hx0 := ext2 w (.cells #[v1, v2] 41) (.cells #[.int .i64 s.ts, .int .i64 s.beta, .slice o s.hops.length cap] 60)
 have HB0 := Lib.hid (al2 w (.cells #[v1, v2] 41) (.cells #[.int .i64 s.ts, .int .i64 s.beta, .slice o s.hops.length cap] 60))
 go_enter Try.func51, Try.ntmps51
 have cf1 := blk2 HB0.out.1
 have cf2 := blk3 HB0.out.2
 go_wp2_with fail
 refine (s_l5Realm t _ _ rr _ (ha.ext hx0)).mono ?_
 rintro e w1 ⟨rfl, hz1⟩
 cases b1 : isAs t rr
 ·
  have HE := Lib.hid (show canExt t s rr inn = false by rw [HCE.out, b1]; rfl)
  try clear cf1
  try clear cf2
  have cf3 := blk2 (Ext.block hz1 HB0.out.1)
  have cf4 := blk3 (Ext.block hz1 HB0.out.2)
  go_wp2_with fail
  go_ret
  exact ⟨ret_bool HE.out.symm, (hx0.trans hz1)⟩
 ·
  try clear cf1
  try clear cf2
  have cf5 := blk2 (Ext.block hz1 HB0.out.1)
  have cf6 := blk3 (Ext.block hz1 HB0.out.2)
  go_wp2_with fail
  refine (s_ValidSegment t _ _ s _ _ (ha.ext (hx0.trans hz1)) (hk.ext (hx0.trans hz1)) (r.ext (hx0.trans hz1)) hl).mono ?_
  rintro e w2 ⟨rfl, hz2⟩
  cases b2 : validSeg t s
  ·
   have HE := Lib.hid (show canExt t s rr inn = false by rw [HCE.out, b1, b2]; rfl)
   try clear cf5
   try clear cf6
   have cf7 := blk2 (Ext.block (hz1.trans hz2) HB0.out.1)
   have cf8 := blk3 (Ext.block (hz1.trans hz2) HB0.out.2)
   go_wp2_with fail
   go_ret
   exact ⟨ret_bool HE.out.symm, ((hx0.trans hz1).trans hz2)⟩
  ·
   try clear cf5
   try clear cf6
   have cf9 := blk2 (Ext.block (hz1.trans hz2) HB0.out.1)
   have cf10 := blk3 (Ext.block (hz1.trans hz2) HB0.out.2)
   go_wp2_with fail
   refine (s_IsTerminated s _ _ (r.ext ((hx0.trans hz1).trans hz2))).mono ?_
   rintro e w3 ⟨rfl, hz3⟩
   cases b3 : isTerm s
   ·
    try clear cf9
    try clear cf10
    have cf11 := blk2 (Ext.block ((hz1.trans hz2).trans hz3) HB0.out.1)
    have cf12 := blk3 (Ext.block ((hz1.trans hz2).trans hz3) HB0.out.2)
    go_wp2_with fail
    refine (s_SegmentASes s _ _ (r.ext (((hx0.trans hz1).trans hz2).trans hz3)) hl).mono ?_
    rintro e w4 ⟨vi, rfl, oi, hz4⟩
    rw [← HML.out] at oi
    have ri := OwnF.rd (hf := intFlen) oi
    clear oi
    obtain ⟨oo, co, rfl, _⟩ := ri.shape
    try clear cf11
    try clear cf12
    have cf13 := blk2 (Ext.block (((hz1.trans hz2).trans hz3).trans hz4) HB0.out.1)
    have cf14 := blk3 (Ext.block (((hz1.trans hz2).trans hz3).trans hz4) HB0.out.2)
    go_wp2_with fail
    refine (s_l9Has ml _ rr _ ri).mono ?_
    rintro e _ ⟨rfl, rfl⟩
    have hbx : hasI ml rr = hasI (asns s.hops) rr := by rw [HML.out]; rfl
    obtain ⟨b4, hb4⟩ : ∃ b, b = hasI ml rr := ⟨_, rfl⟩
    rw [← hb4]
    have B4 := Lib.hid (hb4.trans hbx).symm
    clear hb4 hbx ri
    cases b4
    case false =>
     have hl0 := validSeg_pos b2
     obtain ⟨b, off, rfl, hc⟩ := Hop.at (r.ext ((((hx0.trans hz1).trans hz2).trans hz3).trans hz4)) (s.hops.length - 1) (by omega)
     have hlh : lastHop s = s.hops[s.hops.length - 1] := hopAt_at (by omega)
     obtain ⟨hd, hhd⟩ : ∃ hd, hd = lastHop s := ⟨_, rfl⟩
     rw [← hlh, ← hhd] at hc
     have HHD := Lib.hid hhd
     have hle : ((s.hops.length - 1 : Nat) : Int) = (s.hops.length : Int) - 1 := by omega
     have hl1 : (0 : Int) ≤ (s.hops.length : Int) - 1 := by omega
     have hl2 : ((s.hops.length : Int) - 1).toNat = s.hops.length - 1 := by omega
     clear hlh hhd
     go_upto_region 4 with (fail)
     try clear cf13
     try clear cf14
     have hx9 : Ext w4 (w4.alloc (.cells #[.int .i64 hd.asn, .int .i64 hd.ing, .int .i64 hd.eg, .int .i64 hd.exp, .int .i64 hd.mac] 108)) := (Ext.refl _).alloc _
     have HB9 := Lib.hid (blk_new w4 (.cells #[.int .i64 hd.asn, .int .i64 hd.ing, .int .i64 hd.eg, .int .i64 hd.exp, .int .i64 hd.mac] 108))
     have cf15 := blk2 (Ext.block ((((hz1.trans hz2).trans hz3).trans hz4).trans hx9) HB0.out.1)
     have cf16 := blk3 (Ext.block ((((hz1.trans hz2).trans hz3).trans hz4).trans hx9) HB0.out.2)
     have cf17 := blk5 HB9.out
     go_wp2_with fail
     refine (s_RemoteEnd t _ _ hd.asn hd.eg _ (hk.ext (((((hx0.trans hz1).trans hz2).trans hz3).trans hz4).trans hx9))).mono ?_
     rintro e w6 ⟨rfl, hz6⟩
     obtain ⟨fe, hfe⟩ : ∃ fe, fe = remEnd t hd.asn hd.eg := ⟨_, rfl⟩
     rw [← hfe]
     have HFE : Hid (fe = remEnd t (lastHop s).asn (lastHop s).eg) := Lib.hid (by rw [hfe, HHD.out])
     clear hfe
     cases b5 : (fe.1 == rr)
     ·
      have HE := Lib.hid (show canExt t s rr inn = false by rw [HCE.out, b1, b2, b3, B4.out, ← HFE.out, b5]; rfl)
      try clear cf15
      try clear cf16
      try clear cf17
      have cf18 := blk2 (Ext.block (((((hz1.trans hz2).trans hz3).trans hz4).trans hx9).trans hz6) HB0.out.1)
      have cf19 := blk3 (Ext.block (((((hz1.trans hz2).trans hz3).trans hz4).trans hx9).trans hz6) HB0.out.2)
      have cf20 := blk5 (Ext.block hz6 HB9.out)
      go_wp2_with fail
      go_ret
      exact ⟨ret_bool HE.out.symm, ((((((hx0.trans hz1).trans hz2).trans hz3).trans hz4).trans hx9).trans hz6)⟩
     ·
      have HE := Lib.hid (show canExt t s rr inn = (fe.2 == inn) by rw [HCE.out, b1, b2, b3, B4.out, ← HFE.out, b5]; rfl)
      try clear cf15
      try clear cf16
      try clear cf17
      have cf21 := blk2 (Ext.block (((((hz1.trans hz2).trans hz3).trans hz4).trans hx9).trans hz6) HB0.out.1)
      have cf22 := blk3 (Ext.block (((((hz1.trans hz2).trans hz3).trans hz4).trans hx9).trans hz6) HB0.out.2)
      have cf23 := blk5 (Ext.block hz6 HB9.out)
      go_wp2_with fail
      go_ret
      exact ⟨ret_bool HE.out.symm, ((((((hx0.trans hz1).trans hz2).trans hz3).trans hz4).trans hx9).trans hz6)⟩
    case true =>
     have HE := Lib.hid (show canExt t s rr inn = false by rw [HCE.out, b1, b2, b3, B4.out]; rfl)
     go_wp2_with fail
     go_ret
     exact ⟨ret_bool HE.out.symm, ((((hx0.trans hz1).trans hz2).trans hz3).trans hz4)⟩
   ·
    have HE := Lib.hid (show canExt t s rr inn = false by rw [HCE.out, b1, b2, b3]; rfl)
    try clear cf9
    try clear cf10
    have cf24 := blk2 (Ext.block ((hz1.trans hz2).trans hz3) HB0.out.1)
    have cf25 := blk3 (Ext.block ((hz1.trans hz2).trans hz3) HB0.out.2)
    go_wp2_with fail
    go_ret
    exact ⟨ret_bool HE.out.symm, (((hx0.trans hz1).trans hz2).trans hz3)⟩
theorem all_take {p : Hop → Bool} {l : List Hop} {k : Nat} (hk : k < l.length) (h : (l.take k).all p = true) (h1 : p l[k] = true) : (l.take (k + 1)).all p = true := by
 rw [List.take_succ_eq_append_getElem hk, List.all_append, h]
 simp [h1]
theorem all_no {p : Hop → Bool} {l : List Hop} {k : Nat} (hk : k < l.length) (h1 : p l[k] = false) : l.all p = false := by
 cases h : l.all p
 ·
  rfl
 ·
  rw [List.all_eq_true.1 h _ (List.getElem_mem hk)] at h1; cases h1
set_option maxRecDepth 100000 in
set_option maxHeartbeats 4000000 in
theorem i_Allows (p : Pol) (s : Seg) (v : Value) (out : Int) (w : World) (r : RdS Hop.rep w v s.hops) (hl : s.hops.length ≤ 1048576) :
  Calls Try.prog 48 #[.agg #[.int .i64 p.most, .int .i64 p.den, .int .i64 p.clo, .int .i64 p.life], .agg #[.int .i64 s.ts, .int .i64 s.beta, v], .int .i64 out] w fun e w' => e = .returned (.bool (allows p s out)) ∧ Ext w w' := by
 obtain ⟨o, cap, rfl, hsm⟩ := r.shape
 obtain ⟨ml, hml⟩ : ∃ ml, ml = s.hops.map (·.asn) := ⟨_, rfl⟩
 have HML := Lib.hid hml
 have hln : ml.length = s.hops.length := by rw [hml]; simp
 have HLN := Lib.hid hln
 clear hml hln
 obtain ⟨dn, hdn⟩ : ∃ dn : Hop → Bool, dn = fun h => !(inSet p.den h.asn) := ⟨_, rfl⟩
 have hal : allows p s out = (decide ((s.hops.length : Int) < p.most) && !(inSet p.clo out) && s.hops.all dn) := by rw [hdn]; rfl
 have HAL := Lib.hid hal
 have HDN := Lib.hid hdn
 clear hal hdn
 have hx0 := ext2 w (.cells #[.int .i64 p.most, .int .i64 p.den, .int .i64 p.clo, .int .i64 p.life] 57) (.cells #[.int .i64 s.ts, .int .i64 s.beta, .slice o s.hops.length cap] 60)
 have HB0 := Lib.hid (al2 w (.cells #[.int .i64 p.most, .int .i64 p.den, .int .i64 p.clo, .int .i64 p.life] 57) (.cells #[.int .i64 s.ts, .int .i64 s.beta, .slice o s.hops.length cap] 60))
 go_enter Try.func48, Try.ntmps48
 by_cases h1 : (s.hops.length : Int) < p.most
 ·
  have h1d : decide ((s.hops.length : Int) < p.most) = true := decide_eq_true h1
  have H1 := Lib.hid h1d
  clear h1d
  have cf1 := blk4 HB0.out.1
  have cf2 := blk3 HB0.out.2
  go_wp2_with fail
  refine (i_Contains p.clo out _).mono ?_
  rintro e _ ⟨rfl, rfl⟩
  cases h2 : inSet p.clo out
  ·
   have H2 := Lib.hid h2
   go_wp2_with fail
   refine (i_SegmentASes s _ _ (r.ext hx0) hl).mono ?_
   rintro e w2 ⟨vi, rfl, oi, hz2⟩
   rw [← HML.out] at oi
   have ri := OwnF.rd (hf := intFlen) oi
   clear oi
   obtain ⟨oo, co, rfl, _⟩ := ri.shape
   try clear cf1
   try clear cf2
   have cf3 := blk4 (Ext.block hz2 HB0.out.1)
   have cf4 := blk3 (Ext.block hz2 HB0.out.2)
   go_wp2_with fail
   go_loopg [24] ml.length (fun gk i wr => ∃ k : Nat, gk + k = ml.length ∧ i = .int .i64 k ∧ Hid ((s.hops.take k).all dn = true) ∧ Ext w2 wr)
   case atStart => exact ⟨0, by omega, rfl, Lib.hid rfl, Ext.refl _⟩
   case round =>
    obtain ⟨k, hgk, rfl, HK, hx⟩ := hrel
    have HGK := Lib.hid hgk
    clear hgk
    have hkl : k ≤ ml.length := by have h1 := HGK.out; omega
    by_cases hlt : k < ml.length
    ·
     have hlt2 : (k : Int) < (ml.length : Int) := by omega
     have hls : k < s.hops.length := by have h1 := HLN.out; omega
     obtain ⟨b, off, rfl, hc⟩ := ints_at (ri.ext hx) k hlt
     obtain ⟨rk, hrk⟩ : ∃ rk, rk = ml[k] := ⟨_, rfl⟩
     rw [← hrk] at hc
     have HRK : Hid (rk = s.hops[k].asn) := Lib.hid (by rw [hrk]; simp only [HML.out, List.getElem_map])
     clear hrk
     try clear cf3
     try clear cf4
     have cf5 := blk4 (Ext.block (hz2.trans hx) HB0.out.1)
     have cf6 := blk3 (Ext.block (hz2.trans hx) HB0.out.2)
     go_wp2_with fail
     refine (i_Contains p.den rk _).mono ?_
     rintro e _ ⟨rfl, rfl⟩
     obtain ⟨b9, hb9⟩ : ∃ b, b = inSet p.den rk := ⟨_, rfl⟩
     rw [← hb9]
     have B9 := Lib.hid hb9
     clear hb9
     cases b9
     case false =>
      have HN : Hid ((s.hops.take (k + 1)).all dn = true) := Lib.hid (all_take (by have h1 := HLN.out; omega) HK.out (by simp only [HDN.out]; rw [← HRK.out, ← B9.out]; rfl))
      go_wp2_with fail
      go_roundg (gk - 1)
      case measure => have h1 := HGK.out; omega
      case rel => exact ⟨k + 1, by have h1 := HGK.out; omega, congrArg (Value.int .i64) (by first | omega | (unfold wrap64; omega)), HN, hx⟩
     case true =>
      have HE := Lib.hid (show allows p s out = false by rw [HAL.out, all_no (p := dn) (l := s.hops) (k := k) (by have h1 := HLN.out; omega) (by simp only [HDN.out]; rw [← HRK.out, ← B9.out]; rfl)]; simp)
      go_wp2_with fail
      go_ret
      exact ⟨ret_bool HE.out.symm, ((hx0.trans hz2).trans hx)⟩
    ·
     have hge : ¬ (k : Int) < (ml.length : Int) := by omega
     have HALL : Hid (s.hops.all dn = true) := Lib.hid (by have h1 := HK.out; rwa [List.take_of_length_le (by have h2 := HLN.out; omega)] at h1)
     have HE := Lib.hid (show allows p s out = true by rw [HAL.out, H1.out, H2.out, HALL.out]; rfl)
     try clear cf3
     try clear cf4
     have cf7 := blk4 (Ext.block (hz2.trans hx) HB0.out.1)
     have cf8 := blk3 (Ext.block (hz2.trans hx) HB0.out.2)
     go_wp2_with fail
     go_ret
     exact ⟨ret_bool HE.out.symm, ((hx0.trans hz2).trans hx)⟩
  ·
   have HE := Lib.hid (show allows p s out = false by rw [HAL.out, H1.out, h2]; rfl)
   go_wp2_with fail
   go_ret
   exact ⟨ret_bool HE.out.symm, hx0⟩
 ·
  have HE := Lib.hid (show allows p s out = false by rw [HAL.out, decide_eq_false h1]; rfl)
  have cf9 := blk4 HB0.out.1
  have cf10 := blk3 HB0.out.2
  go_wp2_with fail
  go_ret
  exact ⟨ret_bool HE.out.symm, hx0⟩
set_option maxRecDepth 100000 in
set_option maxHeartbeats 4000000 in
theorem s_Allows (p : Pol) (s : Seg) (v : Value) (out : Int) (w : World) (r : RdS Hop.rep w v s.hops) (hl : s.hops.length ≤ 1048576) :
  Calls Try.prog 52 #[.agg #[.int .i64 p.most, .int .i64 p.den, .int .i64 p.clo, .int .i64 p.life], .agg #[.int .i64 s.ts, .int .i64 s.beta, v], .int .i64 out] w fun e w' => e = .returned (.bool (allows p s out)) ∧ Ext w w' := by
 obtain ⟨o, cap, rfl, hsm⟩ := r.shape
 obtain ⟨ml, hml⟩ : ∃ ml, ml = s.hops.map (·.asn) := ⟨_, rfl⟩
 have HML := Lib.hid hml
 have hln : ml.length = s.hops.length := by rw [hml]; simp
 have HLN := Lib.hid hln
 clear hml hln
 obtain ⟨dn, hdn⟩ : ∃ dn : Hop → Bool, dn = fun h => !(inSet p.den h.asn) := ⟨_, rfl⟩
 have hal : allows p s out = (decide ((s.hops.length : Int) < p.most) && !(inSet p.clo out) && s.hops.all dn) := by rw [hdn]; rfl
 have HAL := Lib.hid hal
 have HDN := Lib.hid hdn
 clear hal hdn
 have hx0 := ext2 w (.cells #[.int .i64 p.most, .int .i64 p.den, .int .i64 p.clo, .int .i64 p.life] 57) (.cells #[.int .i64 s.ts, .int .i64 s.beta, .slice o s.hops.length cap] 60)
 have HB0 := Lib.hid (al2 w (.cells #[.int .i64 p.most, .int .i64 p.den, .int .i64 p.clo, .int .i64 p.life] 57) (.cells #[.int .i64 s.ts, .int .i64 s.beta, .slice o s.hops.length cap] 60))
 go_enter Try.func52, Try.ntmps52
 have cf1 := blk4 HB0.out.1
 have cf2 := blk3 HB0.out.2
 go_wp2_with fail
 refine (s_SegmentASes s _ _ (r.ext hx0) hl).mono ?_
 rintro e w1 ⟨vi, rfl, oi, hz1⟩
 rw [← HML.out] at oi
 have ri := OwnF.rd (hf := intFlen) oi
 clear oi
 obtain ⟨oo, co, rfl, _⟩ := ri.shape
 try clear cf1
 try clear cf2
 have cf3 := blk4 (Ext.block hz1 HB0.out.1)
 have cf4 := blk3 (Ext.block hz1 HB0.out.2)
 go_wp2_with fail
 go_loopg [8] ml.length (fun gk i wr => ∃ k : Nat, gk + k = ml.length ∧ i = .int .i64 k ∧ Hid ((s.hops.take k).all dn = true) ∧ Ext w1 wr)
 case atStart => exact ⟨0, by omega, rfl, Lib.hid rfl, Ext.refl _⟩
 case round =>
  obtain ⟨k, hgk, rfl, HK, hx⟩ := hrel
  have HGK := Lib.hid hgk
  clear hgk
  have hkl : k ≤ ml.length := by have h1 := HGK.out; omega
  by_cases hlt : k < ml.length
  ·
   have hlt2 : (k : Int) < (ml.length : Int) := by omega
   have hls : k < s.hops.length := by have h1 := HLN.out; omega
   obtain ⟨b, off, rfl, hc⟩ := ints_at (ri.ext hx) k hlt
   obtain ⟨rk, hrk⟩ : ∃ rk, rk = ml[k] := ⟨_, rfl⟩
   rw [← hrk] at hc
   have HRK : Hid (rk = s.hops[k].asn) := Lib.hid (by rw [hrk]; simp only [HML.out, List.getElem_map])
   clear hrk
   try clear cf3
   try clear cf4
   have cf5 := blk4 (Ext.block (hz1.trans hx) HB0.out.1)
   have cf6 := blk3 (Ext.block (hz1.trans hx) HB0.out.2)
   go_wp2_with fail
   refine planStep (.blk [0, 1, 2, 3, 4, 5] (.one 6 .done)) [] (by kernel_rfl) (by kernel_rfl) ?_
   try clear cf5
   try clear cf6
   have cf7 := blk4 (Ext.block ((hz1.trans hx).trans ((Ext.refl _).drew)) HB0.out.1)
   have cf8 := blk3 (Ext.block ((hz1.trans hx).trans ((Ext.refl _).drew)) HB0.out.2)
   have cf9 := Ext.cell ((Ext.refl _).drew) hc
   refine blkStep (fun K HK => ?_)
   simp only [PK]
   go_wp2_with fail
   refine HK.out _ _ ?_
   clear HK K
   refine oneStep (fun K HK => ?_)
   simp only [PK]
   go_wp2_with fail
   refine (sameExt (s_Contains p.den rk _)).mono ?_
   rintro e w2 ⟨rfl, hz2⟩
   obtain ⟨b9, hb9⟩ : ∃ b, b = inSet p.den rk := ⟨_, rfl⟩
   rw [← hb9]
   have B9 := Lib.hid hb9
   clear hb9
   try clear cf7
   try clear cf8
   try clear cf9
   have cf10 := blk4 (Ext.block (((hz1.trans hx).trans ((Ext.refl _).drew)).trans hz2) HB0.out.1)
   have cf11 := blk3 (Ext.block (((hz1.trans hx).trans ((Ext.refl _).drew)).trans hz2) HB0.out.2)
   have cf12 := Ext.cell (((Ext.refl _).drew).trans hz2) hc
   go_wp2_with fail
   refine HK.out _ _ hz2 ?_
   clear HK K
   refine doneStep (by kernel_rfl) ?_
   cases b9
   case false =>
    have HN : Hid ((s.hops.take (k + 1)).all dn = true) := Lib.hid (all_take (by have h1 := HLN.out; omega) HK.out (by simp only [HDN.out]; rw [← HRK.out, ← B9.out]; rfl))
    go_wp2_with fail
    go_roundg (gk - 1)
    case measure => have h1 := HGK.out; omega
    case rel => exact ⟨k + 1, by have h1 := HGK.out; omega, congrArg (Value.int .i64) (by first | omega | (unfold wrap64; omega)), HN, ((hx.trans ((Ext.refl _).drew)).trans hz2)⟩
   case true =>
    have HE := Lib.hid (show allows p s out = false by rw [HAL.out, all_no (p := dn) (l := s.hops) (k := k) (by have h1 := HLN.out; omega) (by simp only [HDN.out]; rw [← HRK.out, ← B9.out]; rfl)]; simp)
    go_wp2_with fail
    go_ret
    exact ⟨ret_bool HE.out.symm, ((((hx0.trans hz1).trans hx).trans ((Ext.refl _).drew)).trans hz2)⟩
  ·
   have hge : ¬ (k : Int) < (ml.length : Int) := by omega
   have HALL : Hid (s.hops.all dn = true) := Lib.hid (by have h1 := HK.out; rwa [List.take_of_length_le (by have h2 := HLN.out; omega)] at h1)
   by_cases h1 : (s.hops.length : Int) < p.most
   ·
    have h1d : decide ((s.hops.length : Int) < p.most) = true := decide_eq_true h1
    have H1 := Lib.hid h1d
    clear h1d
    try clear cf3
    try clear cf4
    have cf13 := blk4 (Ext.block (hz1.trans hx) HB0.out.1)
    have cf14 := blk3 (Ext.block (hz1.trans hx) HB0.out.2)
    go_wp2_with fail
    refine (s_Contains p.clo out _).mono ?_
    rintro e _ ⟨rfl, rfl⟩
    have HE := Lib.hid (show allows p s out = !(inSet p.clo out) by rw [HAL.out, H1.out, HALL.out]; simp)
    obtain ⟨b8, hb8⟩ : ∃ b, b = inSet p.clo out := ⟨_, rfl⟩
    rw [← hb8]
    rw [← hb8] at HE
    clear hb8
    go_wp2_with fail
    go_ret
    exact ⟨ret_bool HE.out.symm, ((hx0.trans hz1).trans hx)⟩
   ·
    have HE := Lib.hid (show allows p s out = false by rw [HAL.out, decide_eq_false h1]; rfl)
    try clear cf3
    try clear cf4
    have cf15 := blk4 (Ext.block (hz1.trans hx) HB0.out.1)
    have cf16 := blk3 (Ext.block (hz1.trans hx) HB0.out.2)
    go_wp2_with fail
    go_ret
    exact ⟨ret_bool HE.out.symm, ((hx0.trans hz1).trans hx)⟩
end
section
open Go.ChangeShapes Go.WideShapes Go.ChangeAt Go.RowKit Go.Deep
theorem four_setQ {w : World} {b : Nat} {x0 x1 x2 x3 : Value} {t : TypeId} (h : w.heap[b]? = some (.cells #[x0, x1, x2, x3] t (0, 0))) (y0 y1 y2 y3 : Value) :
  ∃ w5, w5 = (((w.setCell ⟨b, 0, none⟩ y0).setCell ⟨b, 1, none⟩ y1).setCell ⟨b, 2, none⟩ y2).setCell ⟨b, 3, none⟩ y3 ∧ w5.heap[b]? = some (.cells #[y0, y1, y2, y3] t (0, 0)) ∧ Chg (at1 b) w w5 := by
 have q (o : Nat) (u : Value) {wq : World} (h : Chg (at1 b) w wq) := Chg.setC (S := at1 b) (p := ⟨b, o, none⟩) h rfl u
 exact ⟨_, rfl, by simpa using blk_set (blk_set (blk_set (blk_set h 0 y0) 1 y1) 2 y2) 3 y3, q _ _ (q _ _ (q _ _ (q _ _ (Chg.refl _ _))))⟩
set_option maxHeartbeats 400000 in
theorem s_DefaultPolicy (w : World) :
  Calls Try.prog 87 #[] w fun e w' => e = .returned (.agg #[.int .i64 8, .int .i64 0, .int .i64 0, .int .i64 100]) ∧ Ext w w' := by
 go_enter Try.func87, Try.ntmps87
 go_wp2_with fail
 have cr := blk4 (blk_new w (.cells #[.int .i64 8, .int .i64 0, .int .i64 0, .int .i64 100] 57))
 refine bodyPost_ret (v := .agg #[.int .i64 8, .int .i64 0, .int .i64 0, .int .i64 100]) (by simp [results, Try.results87, go_sem, cr]) rfl ?_
 exact ⟨rfl, (Ext.refl _).alloc _⟩
set_option maxRecDepth 100000 in
set_option maxHeartbeats 8000000 in
theorem s_l12Draw (g : Nat)  (cv : Value) (cd : List Int) (w : World) (hc : Cur g cv cd w) :
  Calls Try.prog 47 #[.pointer (some ⟨g, 0, none⟩)] w fun e w' => ∃ p : Pol, e = .returned (.agg #[.int .i64 p.most, .int .i64 p.den, .int .i64 p.clo, .int .i64 p.life]) ∧ p.most ≤ 8 ∧ 0 ≤ p.life ∧ p.life ≤ 1000 ∧ Cur g cv cd w' ∧ Chg (at1 g) w w' := by
 have hx0 : Ext w (w.alloc (.cells #[.int .i64 0, .int .i64 0, .int .i64 0, .int .i64 0] 57)) := (Ext.refl _).alloc _
 have HB := blk_new w (.cells #[.int .i64 0, .int .i64 0, .int .i64 0, .int .i64 0] 57)
 have hgw := hc.lt
 have s : DSt g cv cd w (w.alloc (.cells #[.int .i64 0, .int .i64 0, .int .i64 0, .int .i64 0] 57)) := ⟨hc.ext hx0, Chg.ofExt hx0, hc⟩
 have B2 := HB
 clear HB hx0
 go_enter Try.func47, Try.ntmps47
 go_wp2_with fail
 refine (s_DefaultPolicy _).mono ?_
 rintro e w1 ⟨rfl, hzq⟩
 replace B2 := Ext.block hzq B2
 replace s := s.ext hzq
 clear hzq
 have cb_B2 := blk4 B2
 go_upto_region 2 with (fail)
 clear cb_B2
 have hxa : Ext w1 (w1.alloc (.cells #[.int .i64 8, .int .i64 0, .int .i64 0, .int .i64 100] 57)) := (Ext.refl _).alloc _
 have BB := blk_new w1 (.cells #[.int .i64 8, .int .i64 0, .int .i64 0, .int .i64 100] 57)
 obtain ⟨b3, eb3⟩ : ∃ b, b = w1.heap.size := ⟨_, rfl⟩
 have ltw_b3 : w.heap.size ≤ b3 := by rw [eb3]; exact s.x.size
 have lt_B2_b3 : w.heap.size < b3 := by rw [eb3]; exact blk_lt B2
 replace B2 := Ext.block hxa B2
 replace s := s.ext hxa
 have B3 := BB
 rw [← eb3] at B3
 rw [← eb3]
 clear hxa BB
 generalize (w1.alloc (.cells #[.int .i64 8, .int .i64 0, .int .i64 0, .int .i64 100] 57)) = wa at B2 B3 s ⊢
 clear eb3
 have cb_B2 := blk4 B2
 have cb_B3 := blk4 B3
 go_wp2_with fail
 clear cb_B2 cb_B3
 refine (s_l1Once g (2) _ _ _ s.c).mono ?_
 rintro e w2 ⟨b1, rfl, hcq, hzq⟩
 replace B2 := hzq.blkS B2 (by unfold at1; omega)
 replace B3 := hzq.blkS B3 (by unfold at1; omega)
 replace s := s.draw hcq hzq
 clear hzq hcq
 cases b1
 case true =>
  obtain ⟨wpd, hwd, hbd, hcd⟩ := four_setQ B2 (.int .i64 8) (.int .i64 0) (.int .i64 0) (.int .i64 100)
  have ff0 := fr_of B2 0
  have ff1 := fr_of B2 1
  have ff2 := fr_of B2 2
  have ff3 := fr_of B2 3
  have HWd := Lib.hid hwd
  clear hwd
  have cb_B2 := blk4 B2
  have cb_B3 := blk4 B3
  go_wp2_with fail
  clear cb_B2 cb_B3
  rw [← HWd.out]
  clear HWd ff0 ff1 ff2 ff3
  replace B3 := hcd.blkS B3 (by unfold at1; omega)
  replace B2 := hbd
  clear hbd
  replace s := s.put hcd (fun i hi => by have h1 : i = w.heap.size := hi; omega)
  try clear hcd
  have cr_B2 := blk4 B2
  have cr_B3 := blk4 B3
  have hszE := s.x.size
  go_wp2_with fail
  refine bodyPost_ret (v := .agg #[.int .i64 8, .int .i64 0, .int .i64 0, .int .i64 100]) (by simp [results, Try.results47, go_sem, cr_B2]) rfl ?_
  exact ⟨⟨8, 0, 0, 100⟩, rfl, by simp only; omega, by simp only; omega, by simp only; omega, s.c, s.x⟩
 case false =>
  have cb_B2 := blk4 B2
  have cb_B3 := blk4 B3
  go_wp2_with fail
  clear cb_B2 cb_B3
  refine (s_l1Below g (7) _ _ _ s.c).mono ?_
  rintro e w3 ⟨na, rfl, hna0, hna1, hcq, hzq⟩
  replace B2 := hzq.blkS B2 (by unfold at1; omega)
  replace B3 := hzq.blkS B3 (by unfold at1; omega)
  replace s := s.draw hcq hzq
  clear hzq hcq
  obtain ⟨wpn, hwn, hbn, hcn⟩ := one_set B3 0 (.int .i64 (2 + na))
  simp only [List.setIfInBounds_toArray, List.set_cons_zero] at hbn
  have HWn := Lib.hid hwn
  clear hwn
  have ff := fr_of B3 0
  have cb_B2 := blk4 B2
  have cb_B3 := blk4 B3
  go_wp2_with fail
  clear cb_B2 cb_B3
  rw [← HWn.out]
  clear HWn ff
  replace B2 := hcn.blkS B2 (by unfold at1; omega)
  replace B3 := hbn
  clear hbn
  replace s := s.put hcn (fun i hi => by have h1 : i = b3 := hi; omega)
  try clear hcn
  refine (s_l1Below g (100) _ _ _ s.c).mono ?_
  rintro e w4 ⟨nb, rfl, hnb0, hnb1, hcq, hzq⟩
  replace B2 := hzq.blkS B2 (by unfold at1; omega)
  replace B3 := hzq.blkS B3 (by unfold at1; omega)
  replace s := s.draw hcq hzq
  clear hzq hcq
  obtain ⟨wpn, hwn, hbn, hcn⟩ := one_set B3 3 (.int .i64 (50 + nb))
  simp only [List.setIfInBounds_toArray, List.set_cons_succ, List.set_cons_zero] at hbn
  have HWn := Lib.hid hwn
  clear hwn
  have ff := fr_of B3 3
  have cb_B2 := blk4 B2
  have cb_B3 := blk4 B3
  go_wp2_with fail
  clear cb_B2 cb_B3
  rw [← HWn.out]
  clear HWn ff
  replace B2 := hcn.blkS B2 (by unfold at1; omega)
  replace B3 := hbn
  clear hbn
  replace s := s.put hcn (fun i hi => by have h1 : i = b3 := hi; omega)
  try clear hcn
  refine (s_l1Once g (3) _ _ _ s.c).mono ?_
  rintro e w5 ⟨b2, rfl, hcq, hzq⟩
  replace B2 := hzq.blkS B2 (by unfold at1; omega)
  replace B3 := hzq.blkS B3 (by unfold at1; omega)
  replace s := s.draw hcq hzq
  clear hzq hcq
  have cb_B2 := blk4 B2
  have cb_B3 := blk4 B3
  go_upto_if 17 with (fail)
  clear cb_B2 cb_B3
  go_cut [] (fun  wx => ∃ (dn : Int), wx.heap[w.heap.size]? = some (.cells #[.int .i64 0, .int .i64 0, .int .i64 0, .int .i64 0] 57 (0, 0)) ∧ wx.heap[b3]? = some (.cells #[.int .i64 (2 + na), .int .i64 dn, .int .i64 0, .int .i64 (50 + nb)] 57 (0, 0)) ∧ Cur g cv cd wx ∧ Chg (at1 g) w wx)
  case first =>
   cases b2
   case false =>
    go_wp2_with fail
    go_meet
    exact ⟨0, B2, B3, s.c, s.x⟩
   case true =>
    have cb_B2 := blk4 B2
    have cb_B3 := blk4 B3
    go_wp2_with fail
    clear cb_B2 cb_B3
    refine (s_l1Below g (8) _ _ _ s.c).mono ?_
    rintro e w6 ⟨x, rfl, hx0, hx1, hcq, hzq⟩
    replace B2 := hzq.blkS B2 (by unfold at1; omega)
    replace B3 := hzq.blkS B3 (by unfold at1; omega)
    replace s := s.draw hcq hzq
    clear hzq hcq
    have hx2 : x = 0 ∨ x = 1 ∨ x = 2 ∨ x = 3 ∨ x = 4 ∨ x = 5 ∨ x = 6 ∨ x = 7 := by omega
    clear hx0 hx1
    rcases hx2 with rfl | rfl | rfl | rfl | rfl | rfl | rfl | rfl
    ·
     obtain ⟨wpn, hwn, hbn, hcn⟩ := one_set B3 1 (.int .i64 1)
     simp only [List.setIfInBounds_toArray, List.set_cons_succ, List.set_cons_zero] at hbn
     have HWn := Lib.hid hwn
     clear hwn
     have ff := fr_of B3 1
     have cb_B2 := blk4 B2
     have cb_B3 := blk4 B3
     go_wp2_with fail
     clear cb_B2 cb_B3
     rw [← HWn.out]
     clear HWn ff
     replace B2 := hcn.blkS B2 (by unfold at1; omega)
     replace B3 := hbn
     clear hbn
     replace s := s.put hcn (fun i hi => by have h1 : i = b3 := hi; omega)
     try clear hcn
     go_wp2_with fail
     go_meet
     exact ⟨1, B2, B3, s.c, s.x⟩
    ·
     obtain ⟨wpn, hwn, hbn, hcn⟩ := one_set B3 1 (.int .i64 2)
     simp only [List.setIfInBounds_toArray, List.set_cons_succ, List.set_cons_zero] at hbn
     have HWn := Lib.hid hwn
     clear hwn
     have ff := fr_of B3 1
     have cb_B2 := blk4 B2
     have cb_B3 := blk4 B3
     go_wp2_with fail
     clear cb_B2 cb_B3
     rw [← HWn.out]
     clear HWn ff
     replace B2 := hcn.blkS B2 (by unfold at1; omega)
     replace B3 := hbn
     clear hbn
     replace s := s.put hcn (fun i hi => by have h1 : i = b3 := hi; omega)
     try clear hcn
     go_wp2_with fail
     go_meet
     exact ⟨2, B2, B3, s.c, s.x⟩
    ·
     obtain ⟨wpn, hwn, hbn, hcn⟩ := one_set B3 1 (.int .i64 4)
     simp only [List.setIfInBounds_toArray, List.set_cons_succ, List.set_cons_zero] at hbn
     have HWn := Lib.hid hwn
     clear hwn
     have ff := fr_of B3 1
     have cb_B2 := blk4 B2
     have cb_B3 := blk4 B3
     go_wp2_with fail
     clear cb_B2 cb_B3
     rw [← HWn.out]
     clear HWn ff
     replace B2 := hcn.blkS B2 (by unfold at1; omega)
     replace B3 := hbn
     clear hbn
     replace s := s.put hcn (fun i hi => by have h1 : i = b3 := hi; omega)
     try clear hcn
     go_wp2_with fail
     go_meet
     exact ⟨4, B2, B3, s.c, s.x⟩
    ·
     obtain ⟨wpn, hwn, hbn, hcn⟩ := one_set B3 1 (.int .i64 8)
     simp only [List.setIfInBounds_toArray, List.set_cons_succ, List.set_cons_zero] at hbn
     have HWn := Lib.hid hwn
     clear hwn
     have ff := fr_of B3 1
     have cb_B2 := blk4 B2
     have cb_B3 := blk4 B3
     go_wp2_with fail
     clear cb_B2 cb_B3
     rw [← HWn.out]
     clear HWn ff
     replace B2 := hcn.blkS B2 (by unfold at1; omega)
     replace B3 := hbn
     clear hbn
     replace s := s.put hcn (fun i hi => by have h1 : i = b3 := hi; omega)
     try clear hcn
     go_wp2_with fail
     go_meet
     exact ⟨8, B2, B3, s.c, s.x⟩
    ·
     obtain ⟨wpn, hwn, hbn, hcn⟩ := one_set B3 1 (.int .i64 16)
     simp only [List.setIfInBounds_toArray, List.set_cons_succ, List.set_cons_zero] at hbn
     have HWn := Lib.hid hwn
     clear hwn
     have ff := fr_of B3 1
     have cb_B2 := blk4 B2
     have cb_B3 := blk4 B3
     go_wp2_with fail
     clear cb_B2 cb_B3
     rw [← HWn.out]
     clear HWn ff
     replace B2 := hcn.blkS B2 (by unfold at1; omega)
     replace B3 := hbn
     clear hbn
     replace s := s.put hcn (fun i hi => by have h1 : i = b3 := hi; omega)
     try clear hcn
     go_wp2_with fail
     go_meet
     exact ⟨16, B2, B3, s.c, s.x⟩
    ·
     obtain ⟨wpn, hwn, hbn, hcn⟩ := one_set B3 1 (.int .i64 32)
     simp only [List.setIfInBounds_toArray, List.set_cons_succ, List.set_cons_zero] at hbn
     have HWn := Lib.hid hwn
     clear hwn
     have ff := fr_of B3 1
     have cb_B2 := blk4 B2
     have cb_B3 := blk4 B3
     go_wp2_with fail
     clear cb_B2 cb_B3
     rw [← HWn.out]
     clear HWn ff
     replace B2 := hcn.blkS B2 (by unfold at1; omega)
     replace B3 := hbn
     clear hbn
     replace s := s.put hcn (fun i hi => by have h1 : i = b3 := hi; omega)
     try clear hcn
     go_wp2_with fail
     go_meet
     exact ⟨32, B2, B3, s.c, s.x⟩
    ·
     obtain ⟨wpn, hwn, hbn, hcn⟩ := one_set B3 1 (.int .i64 64)
     simp only [List.setIfInBounds_toArray, List.set_cons_succ, List.set_cons_zero] at hbn
     have HWn := Lib.hid hwn
     clear hwn
     have ff := fr_of B3 1
     have cb_B2 := blk4 B2
     have cb_B3 := blk4 B3
     go_wp2_with fail
     clear cb_B2 cb_B3
     rw [← HWn.out]
     clear HWn ff
     replace B2 := hcn.blkS B2 (by unfold at1; omega)
     replace B3 := hbn
     clear hbn
     replace s := s.put hcn (fun i hi => by have h1 : i = b3 := hi; omega)
     try clear hcn
     go_wp2_with fail
     go_meet
     exact ⟨64, B2, B3, s.c, s.x⟩
    ·
     obtain ⟨wpn, hwn, hbn, hcn⟩ := one_set B3 1 (.int .i64 128)
     simp only [List.setIfInBounds_toArray, List.set_cons_succ, List.set_cons_zero] at hbn
     have HWn := Lib.hid hwn
     clear hwn
     have ff := fr_of B3 1
     have cb_B2 := blk4 B2
     have cb_B3 := blk4 B3
     go_wp2_with fail
     clear cb_B2 cb_B3
     rw [← HWn.out]
     clear HWn ff
     replace B2 := hcn.blkS B2 (by unfold at1; omega)
     replace B3 := hbn
     clear hbn
     replace s := s.put hcn (fun i hi => by have h1 : i = b3 := hi; omega)
     try clear hcn
     go_wp2_with fail
     go_meet
     exact ⟨128, B2, B3, s.c, s.x⟩
  case rest =>
   have hc0z := s.c0
   clear s B2 B3
   obtain ⟨dn, B2, B3, hcC, hcX⟩ := hcut
   obtain ⟨wz1, hwz⟩ : ∃ wz : World, wz = wc := ⟨_, rfl⟩
   subst hwz
   have s : DSt g cv cd w wz1 := ⟨hcC, hcX, hc0z⟩
   clear hcC hcX hc0z
   have cb_B2 := blk4 B2
   have cb_B3 := blk4 B3
   go_wp2_with fail
   clear cb_B2 cb_B3
   refine (s_l1Once g (3) _ _ _ s.c).mono ?_
   rintro e w6 ⟨b3_, rfl, hcq, hzq⟩
   replace B2 := hzq.blkS B2 (by unfold at1; omega)
   replace B3 := hzq.blkS B3 (by unfold at1; omega)
   replace s := s.draw hcq hzq
   clear hzq hcq
   have cb_B2 := blk4 B2
   have cb_B3 := blk4 B3
   go_upto_if 23 with (fail)
   clear cb_B2 cb_B3
   go_cut [] (fun  wx => ∃ (cl : Int), wx.heap[w.heap.size]? = some (.cells #[.int .i64 0, .int .i64 0, .int .i64 0, .int .i64 0] 57 (0, 0)) ∧ wx.heap[b3]? = some (.cells #[.int .i64 (2 + na), .int .i64 dn, .int .i64 cl, .int .i64 (50 + nb)] 57 (0, 0)) ∧ Cur g cv cd wx ∧ Chg (at1 g) w wx)
   case first =>
    cases b3_
    case false =>
     go_wp2_with fail
     go_meet
     exact ⟨0, B2, B3, s.c, s.x⟩
    case true =>
     have cb_B2 := blk4 B2
     have cb_B3 := blk4 B3
     go_wp2_with fail
     clear cb_B2 cb_B3
     refine (s_l1Below g (6) _ _ _ s.c).mono ?_
     rintro e w7 ⟨x, rfl, hx0, hx1, hcq, hzq⟩
     replace B2 := hzq.blkS B2 (by unfold at1; omega)
     replace B3 := hzq.blkS B3 (by unfold at1; omega)
     replace s := s.draw hcq hzq
     clear hzq hcq
     have hx2 : x = 0 ∨ x = 1 ∨ x = 2 ∨ x = 3 ∨ x = 4 ∨ x = 5 := by omega
     clear hx0 hx1
     rcases hx2 with rfl | rfl | rfl | rfl | rfl | rfl
     ·
      obtain ⟨wpn, hwn, hbn, hcn⟩ := one_set B3 2 (.int .i64 2)
      simp only [List.setIfInBounds_toArray, List.set_cons_succ, List.set_cons_zero] at hbn
      have HWn := Lib.hid hwn
      clear hwn
      have ff := fr_of B3 2
      have cb_B2 := blk4 B2
      have cb_B3 := blk4 B3
      go_wp2_with fail
      clear cb_B2 cb_B3
      rw [← HWn.out]
      clear HWn ff
      replace B2 := hcn.blkS B2 (by unfold at1; omega)
      replace B3 := hbn
      clear hbn
      replace s := s.put hcn (fun i hi => by have h1 : i = b3 := hi; omega)
      try clear hcn
      go_wp2_with fail
      go_meet
      exact ⟨2, B2, B3, s.c, s.x⟩
     ·
      obtain ⟨wpn, hwn, hbn, hcn⟩ := one_set B3 2 (.int .i64 4)
      simp only [List.setIfInBounds_toArray, List.set_cons_succ, List.set_cons_zero] at hbn
      have HWn := Lib.hid hwn
      clear hwn
      have ff := fr_of B3 2
      have cb_B2 := blk4 B2
      have cb_B3 := blk4 B3
      go_wp2_with fail
      clear cb_B2 cb_B3
      rw [← HWn.out]
      clear HWn ff
      replace B2 := hcn.blkS B2 (by unfold at1; omega)
      replace B3 := hbn
      clear hbn
      replace s := s.put hcn (fun i hi => by have h1 : i = b3 := hi; omega)
      try clear hcn
      go_wp2_with fail
      go_meet
      exact ⟨4, B2, B3, s.c, s.x⟩
     ·
      obtain ⟨wpn, hwn, hbn, hcn⟩ := one_set B3 2 (.int .i64 8)
      simp only [List.setIfInBounds_toArray, List.set_cons_succ, List.set_cons_zero] at hbn
      have HWn := Lib.hid hwn
      clear hwn
      have ff := fr_of B3 2
      have cb_B2 := blk4 B2
      have cb_B3 := blk4 B3
      go_wp2_with fail
      clear cb_B2 cb_B3
      rw [← HWn.out]
      clear HWn ff
      replace B2 := hcn.blkS B2 (by unfold at1; omega)
      replace B3 := hbn
      clear hbn
      replace s := s.put hcn (fun i hi => by have h1 : i = b3 := hi; omega)
      try clear hcn
      go_wp2_with fail
      go_meet
      exact ⟨8, B2, B3, s.c, s.x⟩
     ·
      obtain ⟨wpn, hwn, hbn, hcn⟩ := one_set B3 2 (.int .i64 16)
      simp only [List.setIfInBounds_toArray, List.set_cons_succ, List.set_cons_zero] at hbn
      have HWn := Lib.hid hwn
      clear hwn
      have ff := fr_of B3 2
      have cb_B2 := blk4 B2
      have cb_B3 := blk4 B3
      go_wp2_with fail
      clear cb_B2 cb_B3
      rw [← HWn.out]
      clear HWn ff
      replace B2 := hcn.blkS B2 (by unfold at1; omega)
      replace B3 := hbn
      clear hbn
      replace s := s.put hcn (fun i hi => by have h1 : i = b3 := hi; omega)
      try clear hcn
      go_wp2_with fail
      go_meet
      exact ⟨16, B2, B3, s.c, s.x⟩
     ·
      obtain ⟨wpn, hwn, hbn, hcn⟩ := one_set B3 2 (.int .i64 32)
      simp only [List.setIfInBounds_toArray, List.set_cons_succ, List.set_cons_zero] at hbn
      have HWn := Lib.hid hwn
      clear hwn
      have ff := fr_of B3 2
      have cb_B2 := blk4 B2
      have cb_B3 := blk4 B3
      go_wp2_with fail
      clear cb_B2 cb_B3
      rw [← HWn.out]
      clear HWn ff
      replace B2 := hcn.blkS B2 (by unfold at1; omega)
      replace B3 := hbn
      clear hbn
      replace s := s.put hcn (fun i hi => by have h1 : i = b3 := hi; omega)
      try clear hcn
      go_wp2_with fail
      go_meet
      exact ⟨32, B2, B3, s.c, s.x⟩
     ·
      obtain ⟨wpn, hwn, hbn, hcn⟩ := one_set B3 2 (.int .i64 64)
      simp only [List.setIfInBounds_toArray, List.set_cons_succ, List.set_cons_zero] at hbn
      have HWn := Lib.hid hwn
      clear hwn
      have ff := fr_of B3 2
      have cb_B2 := blk4 B2
      have cb_B3 := blk4 B3
      go_wp2_with fail
      clear cb_B2 cb_B3
      rw [← HWn.out]
      clear HWn ff
      replace B2 := hcn.blkS B2 (by unfold at1; omega)
      replace B3 := hbn
      clear hbn
      replace s := s.put hcn (fun i hi => by have h1 : i = b3 := hi; omega)
      try clear hcn
      go_wp2_with fail
      go_meet
      exact ⟨64, B2, B3, s.c, s.x⟩
   case rest =>
    have hc0z := s.c0
    clear s B2 B3
    obtain ⟨cl, B2, B3, hcC, hcX⟩ := hcut
    obtain ⟨wz2, hwz⟩ : ∃ wz : World, wz = wc := ⟨_, rfl⟩
    subst hwz
    have s : DSt g cv cd w wz2 := ⟨hcC, hcX, hc0z⟩
    clear hcC hcX hc0z
    obtain ⟨wpd, hwd, hbd, hcd⟩ := four_setQ B2 (.int .i64 (2 + na)) (.int .i64 dn) (.int .i64 cl) (.int .i64 (50 + nb))
    have ff0 := fr_of B2 0
    have ff1 := fr_of B2 1
    have ff2 := fr_of B2 2
    have ff3 := fr_of B2 3
    have HWd := Lib.hid hwd
    clear hwd
    have cb_B2 := blk4 B2
    have cb_B3 := blk4 B3
    go_wp2_with fail
    clear cb_B2 cb_B3
    rw [← HWd.out]
    clear HWd ff0 ff1 ff2 ff3
    replace B3 := hcd.blkS B3 (by unfold at1; omega)
    replace B2 := hbd
    clear hbd
    replace s := s.put hcd (fun i hi => by have h1 : i = w.heap.size := hi; omega)
    try clear hcd
    have cr_B2 := blk4 B2
    have cr_B3 := blk4 B3
    have hszE := s.x.size
    go_wp2_with fail
    refine bodyPost_ret (v := .agg #[.int .i64 (2 + na), .int .i64 dn, .int .i64 cl, .int .i64 (50 + nb)]) (by simp [results, Try.results47, go_sem, cr_B2]) rfl ?_
    exact ⟨⟨2 + na, dn, cl, 50 + nb⟩, rfl, by simp only; omega, by simp only; omega, by simp only; omega, s.c, s.x⟩
end
end Go.Proofs.Ytcpfmhgfaliemaa
