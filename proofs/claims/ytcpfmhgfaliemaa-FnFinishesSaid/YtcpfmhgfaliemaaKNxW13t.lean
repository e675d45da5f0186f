/- What ends a segment, program and reference. No condition but the bounds that each theorem names. -/
import Derived.Test.YtcpfmhgfaliemaaKNxW13g
import Derived.Test.YtcpfmhgfaliemaaKN20
namespace Go.Proofs.Ytcpfmhgfaliemaa
open Go.ChangeShapes Go.WideShapes Go.ChangeAt Go.RowKit Go.Deep

theorem canExt_as {t : Topo} {s : Seg} {r inn : Int} (h : canExt t s r inn = true) : isAs t r = true := by
 unfold canExt at h
 simp only [Bool.and_eq_true] at h
 exact h.1.1.1.1.1
theorem grown_end (t : Topo) (p : Pol) (s : Seg) (r inn : Int) : grownHop t p s r inn 0 = endHop t p s r inn := rfl

set_option maxRecDepth 100000 in
set_option maxHeartbeats 8000000 in
theorem i_Terminate (t : Topo) (v1 v2 : Value) (p : Pol) (s : Seg) (v : Value) (r inn : Int) (x : Seg) (ok : Bool) (w : World) (ha : RdS ASd.rep w v1 t.ases) (hk : RdS Lnk.rep w v2 t.links) (rs : RdS Hop.rep w v s.hops) (hl : s.hops.length ≤ 1000000) (hX : terminate t p s r inn = (x, ok)) :
  Calls Try.prog 15 #[.agg #[v1, v2], .agg #[.int .i64 p.most, .int .i64 p.den, .int .i64 p.clo, .int .i64 p.life], .agg #[.int .i64 s.ts, .int .i64 s.beta, v], .int .i64 r, .int .i64 inn] w fun e w' => ∃ v', e = .returned (.tuple #[.agg #[.int .i64 x.ts, .int .i64 x.beta, v'], .bool ok]) ∧ OwnF Hop.f 5 w.heap.size 108 w' v' x.hops ∧ Ext w w' := by
 obtain ⟨o, cap, rfl, hsm⟩ := rs.shape
 have HX := Lib.hid hX
 clear hX
 have hx0 := ext4G w (.cells #[v1, v2] 41) (.cells #[.int .i64 p.most, .int .i64 p.den, .int .i64 p.clo, .int .i64 p.life] 57) (.cells #[.int .i64 s.ts, .int .i64 s.beta, .slice o s.hops.length cap] 60) (.cells #[.int .i64 0, .int .i64 0, .slice none 0 0] 60)
 have HB0 := Lib.hid (al4G w (.cells #[v1, v2] 41) (.cells #[.int .i64 p.most, .int .i64 p.den, .int .i64 p.clo, .int .i64 p.life] 57) (.cells #[.int .i64 s.ts, .int .i64 s.beta, .slice o s.hops.length cap] 60) (.cells #[.int .i64 0, .int .i64 0, .slice none 0 0] 60))
 go_enter Try.func15, Try.ntmps15
 have cf1 := blk2 HB0.out.1
 have cf2 := blk4 HB0.out.2.1
 have cf3 := blk3 HB0.out.2.2.1
 have cf4 := blk3 HB0.out.2.2.2
 go_wp2_with fail
 refine (i_CanExtend t _ _ s _ r inn _ (ha.ext hx0) (hk.ext hx0) (rs.ext hx0) (by omega)).mono ?_
 rintro e w1 ⟨rfl, hz1⟩
 cases b1 : canExt t s r inn
 ·
  have hX0 : (s, false) = (x, ok) := by rw [← HX.out]; unfold terminate; rw [b1]; rfl
  cases hX0
  try clear cf1
  try clear cf2
  try clear cf3
  try clear cf4
  have cf5 := blk2 (Ext.block hz1 HB0.out.1)
  have cf6 := blk4 (Ext.block hz1 HB0.out.2.1)
  have cf7 := blk3 (Ext.block hz1 HB0.out.2.2.1)
  have cf8 := blk3 (Ext.block hz1 HB0.out.2.2.2)
  go_wp2_with fail
  refine (i_copySegment s _ _ (rs.ext (hx0.trans hz1)) (by omega)).mono ?_
  rintro e w2 ⟨vc, rfl, RH, hz2⟩
  replace RH := RH.mono (base' := w.heap.size) (Ext.size (hx0.trans hz1))
  obtain ⟨oc, cc, rfl, _⟩ := (OwnF.rd (hf := Hop.flen) RH).shape
  have hb3 := Ext.block (hz1.trans hz2) HB0.out.2.2.2
  obtain ⟨wq, hwq, hbq, hcq⟩ := three_set hb3 (.int .i64 s.ts) (.int .i64 s.beta) (.slice oc s.hops.length cc)
  have HRH := Lib.hid (RH.chg hcq (fun q hq e => RH.ne hb3 (by decide) (by rw [hq]; exact congrArg some e)))
  have HE := Lib.hid (Ext.chg ((hx0.trans hz1).trans hz2) hcq (fun i hi => by have h1 : i = w.heap.size + 1 + 1 + 1 := hi; omega))
  have HWQ := Lib.hid hwq
  have HBQ := Lib.hid hbq
  have fR0 := fr_of hb3 0
  have fR1 := fr_of hb3 1
  have fR2 := fr_of hb3 2
  clear hwq hbq hcq hb3
  try clear cf5
  try clear cf6
  try clear cf7
  try clear cf8
  have cf9 := blk2 (Ext.block (hz1.trans hz2) HB0.out.1)
  have cf10 := blk4 (Ext.block (hz1.trans hz2) HB0.out.2.1)
  have cf11 := blk3 (Ext.block (hz1.trans hz2) HB0.out.2.2.1)
  have cf12 := blk3 (Ext.block (hz1.trans hz2) HB0.out.2.2.2)
  go_wp2_with fail
  rw [← HWQ.out]
  clear fR0 fR1 fR2
  try clear cf9
  try clear cf10
  try clear cf11
  try clear cf12
  have cc9 := blk3 HBQ.out
  refine bodyPost_ret (v := .tuple #[.agg #[.int .i64 s.ts, .int .i64 s.beta, .slice oc s.hops.length cc], .bool false]) (by simp [results, Try.results15, go_sem, cc9]) rfl ?_
  exact ⟨_, rfl, HRH.out, HE.out⟩
 ·
  try clear cf1
  try clear cf2
  try clear cf3
  try clear cf4
  have cf13 := blk2 (Ext.block hz1 HB0.out.1)
  have cf14 := blk4 (Ext.block hz1 HB0.out.2.1)
  have cf15 := blk3 (Ext.block hz1 HB0.out.2.2.1)
  have cf16 := blk3 (Ext.block hz1 HB0.out.2.2.2)
  go_wp2_with fail
  refine (i_Allows p s _ 0 _ (rs.ext (hx0.trans hz1)) (by omega)).mono ?_
  rintro e w3 ⟨rfl, hz3⟩
  cases b2 : allows p s 0
  ·
   have hX0 : (s, false) = (x, ok) := by rw [← HX.out]; unfold terminate; rw [b1, b2]; rfl
   cases hX0
   try clear cf13
   try clear cf14
   try clear cf15
   try clear cf16
   have cf17 := blk2 (Ext.block (hz1.trans hz3) HB0.out.1)
   have cf18 := blk4 (Ext.block (hz1.trans hz3) HB0.out.2.1)
   have cf19 := blk3 (Ext.block (hz1.trans hz3) HB0.out.2.2.1)
   have cf20 := blk3 (Ext.block (hz1.trans hz3) HB0.out.2.2.2)
   go_wp2_with fail
   refine (i_copySegment s _ _ (rs.ext ((hx0.trans hz1).trans hz3)) (by omega)).mono ?_
   rintro e w4 ⟨vc, rfl, RH, hz4⟩
   replace RH := RH.mono (base' := w.heap.size) (Ext.size ((hx0.trans hz1).trans hz3))
   obtain ⟨oc, cc, rfl, _⟩ := (OwnF.rd (hf := Hop.flen) RH).shape
   have hb3 := Ext.block ((hz1.trans hz3).trans hz4) HB0.out.2.2.2
   obtain ⟨wq, hwq, hbq, hcq⟩ := three_set hb3 (.int .i64 s.ts) (.int .i64 s.beta) (.slice oc s.hops.length cc)
   have HRH := Lib.hid (RH.chg hcq (fun q hq e => RH.ne hb3 (by decide) (by rw [hq]; exact congrArg some e)))
   have HE := Lib.hid (Ext.chg (((hx0.trans hz1).trans hz3).trans hz4) hcq (fun i hi => by have h1 : i = w.heap.size + 1 + 1 + 1 := hi; omega))
   have HWQ := Lib.hid hwq
   have HBQ := Lib.hid hbq
   have fR0 := fr_of hb3 0
   have fR1 := fr_of hb3 1
   have fR2 := fr_of hb3 2
   clear hwq hbq hcq hb3
   try clear cf17
   try clear cf18
   try clear cf19
   try clear cf20
   have cf21 := blk2 (Ext.block ((hz1.trans hz3).trans hz4) HB0.out.1)
   have cf22 := blk4 (Ext.block ((hz1.trans hz3).trans hz4) HB0.out.2.1)
   have cf23 := blk3 (Ext.block ((hz1.trans hz3).trans hz4) HB0.out.2.2.1)
   have cf24 := blk3 (Ext.block ((hz1.trans hz3).trans hz4) HB0.out.2.2.2)
   go_wp2_with fail
   rw [← HWQ.out]
   clear fR0 fR1 fR2
   try clear cf21
   try clear cf22
   try clear cf23
   try clear cf24
   have cc9 := blk3 HBQ.out
   refine bodyPost_ret (v := .tuple #[.agg #[.int .i64 s.ts, .int .i64 s.beta, .slice oc s.hops.length cc], .bool false]) (by simp [results, Try.results15, go_sem, cc9]) rfl ?_
   exact ⟨_, rfl, HRH.out, HE.out⟩
  ·
   have hX0 : (ended t p s r inn, true) = (x, ok) := by rw [← HX.out]; unfold terminate; rw [b1, b2]; rfl
   cases hX0
   have HA := Lib.hid (canExt_as b1)
   clear b1 b2
   try clear cf13
   try clear cf14
   try clear cf15
   try clear cf16
   have cf25 := blk2 (Ext.block (hz1.trans hz3) HB0.out.1)
   have cf26 := blk4 (Ext.block (hz1.trans hz3) HB0.out.2.1)
   have cf27 := blk3 (Ext.block (hz1.trans hz3) HB0.out.2.2.1)
   have cf28 := blk3 (Ext.block (hz1.trans hz3) HB0.out.2.2.2)
   go_wp2_with fail
   refine (i_grown t _ _ p s _ r inn 0 _ (ha.ext ((hx0.trans hz1).trans hz3)) (rs.ext ((hx0.trans hz1).trans hz3)) HA.out hl).mono ?_
   rintro e w5 ⟨vc, rfl, RH, hz5⟩
   rw [grown_end] at RH
   replace RH := RH.mono (base' := w.heap.size) (Ext.size ((hx0.trans hz1).trans hz3))
   obtain ⟨oc, cc, rfl⟩ : ∃ oc cc, vc = .slice oc (s.hops.length + 1) cc := by obtain ⟨o', c', h, _⟩ := (OwnF.rd (hf := Hop.flen) RH).shape; exact ⟨o', c', by simpa using h⟩
   have hb3 := Ext.block ((hz1.trans hz3).trans hz5) HB0.out.2.2.2
   obtain ⟨wq, hwq, hbq, hcq⟩ := three_set hb3 (.int .i64 s.ts) (.int .i64 s.beta) (.slice oc (s.hops.length + 1) cc)
   have HRH := Lib.hid (RH.chg hcq (fun q hq e => RH.ne hb3 (by decide) (by rw [hq]; exact congrArg some e)))
   have HE := Lib.hid (Ext.chg (((hx0.trans hz1).trans hz3).trans hz5) hcq (fun i hi => by have h1 : i = w.heap.size + 1 + 1 + 1 := hi; omega))
   have HWQ := Lib.hid hwq
   have HBQ := Lib.hid hbq
   have fR0 := fr_of hb3 0
   have fR1 := fr_of hb3 1
   have fR2 := fr_of hb3 2
   clear hwq hbq hcq hb3
   try clear cf25
   try clear cf26
   try clear cf27
   try clear cf28
   have cf29 := blk2 (Ext.block ((hz1.trans hz3).trans hz5) HB0.out.1)
   have cf30 := blk4 (Ext.block ((hz1.trans hz3).trans hz5) HB0.out.2.1)
   have cf31 := blk3 (Ext.block ((hz1.trans hz3).trans hz5) HB0.out.2.2.1)
   have cf32 := blk3 (Ext.block ((hz1.trans hz3).trans hz5) HB0.out.2.2.2)
   go_wp2_with fail
   rw [← HWQ.out]
   clear fR0 fR1 fR2
   try clear cf29
   try clear cf30
   try clear cf31
   try clear cf32
   have cc9 := blk3 HBQ.out
   refine bodyPost_ret (v := .tuple #[.agg #[.int .i64 s.ts, .int .i64 s.beta, .slice oc (s.hops.length + 1) cc], .bool true]) (by simp [results, Try.results15, go_sem, cc9]) rfl ?_
   exact ⟨_, rfl, HRH.out, HE.out⟩

set_option maxRecDepth 100000 in
set_option maxHeartbeats 8000000 in
theorem s_Terminate (t : Topo) (v1 v2 : Value) (p : Pol) (s : Seg) (v : Value) (r inn : Int) (x : Seg) (ok : Bool) (w : World) (ha : RdS ASd.rep w v1 t.ases) (hk : RdS Lnk.rep w v2 t.links) (rs : RdS Hop.rep w v s.hops) (hl : s.hops.length ≤ 1000000) (hX : terminate t p s r inn = (x, ok)) :
  Calls Try.prog 16 #[.agg #[v1, v2], .agg #[.int .i64 p.most, .int .i64 p.den, .int .i64 p.clo, .int .i64 p.life], .agg #[.int .i64 s.ts, .int .i64 s.beta, v], .int .i64 r, .int .i64 inn] w fun e w' => ∃ v', e = .returned (.tuple #[.agg #[.int .i64 x.ts, .int .i64 x.beta, v'], .bool ok]) ∧ OwnF Hop.f 5 w.heap.size 108 w' v' x.hops ∧ Ext w w' := by
 obtain ⟨o, cap, rfl, hsm⟩ := rs.shape
 have HX := Lib.hid hX
 clear hX
 have hx0 := ext4G w (.cells #[v1, v2] 41) (.cells #[.int .i64 p.most, .int .i64 p.den, .int .i64 p.clo, .int .i64 p.life] 57) (.cells #[.int .i64 s.ts, .int .i64 s.beta, .slice o s.hops.length cap] 60) (.cells #[.int .i64 0, .int .i64 0, .slice none 0 0] 60)
 have HB0 := Lib.hid (al4G w (.cells #[v1, v2] 41) (.cells #[.int .i64 p.most, .int .i64 p.den, .int .i64 p.clo, .int .i64 p.life] 57) (.cells #[.int .i64 s.ts, .int .i64 s.beta, .slice o s.hops.length cap] 60) (.cells #[.int .i64 0, .int .i64 0, .slice none 0 0] 60))
 go_enter Try.func16, Try.ntmps16
 have cf1 := blk2 HB0.out.1
 have cf2 := blk4 HB0.out.2.1
 have cf3 := blk3 HB0.out.2.2.1
 have cf4 := blk3 HB0.out.2.2.2
 go_wp2_with fail
 refine (s_CanExtend t _ _ s _ r inn _ (ha.ext hx0) (hk.ext hx0) (rs.ext hx0) (by omega)).mono ?_
 rintro e w1 ⟨rfl, hz1⟩
 cases b1 : canExt t s r inn
 ·
  have hX0 : (s, false) = (x, ok) := by rw [← HX.out]; unfold terminate; rw [b1]; rfl
  cases hX0
  try clear cf1
  try clear cf2
  try clear cf3
  try clear cf4
  have cf5 := blk2 (Ext.block hz1 HB0.out.1)
  have cf6 := blk4 (Ext.block hz1 HB0.out.2.1)
  have cf7 := blk3 (Ext.block hz1 HB0.out.2.2.1)
  have cf8 := blk3 (Ext.block hz1 HB0.out.2.2.2)
  go_wp2_with fail
  refine (s_l9Copy s _ _ (rs.ext (hx0.trans hz1)) (by omega)).mono ?_
  rintro e w2 ⟨vc, rfl, RH, hz2⟩
  replace RH := RH.mono (base' := w.heap.size) (Ext.size (hx0.trans hz1))
  obtain ⟨oc, cc, rfl, _⟩ := (OwnF.rd (hf := Hop.flen) RH).shape
  have hb3 := Ext.block (hz1.trans hz2) HB0.out.2.2.2
  obtain ⟨wq, hwq, hbq, hcq⟩ := three_set hb3 (.int .i64 s.ts) (.int .i64 s.beta) (.slice oc s.hops.length cc)
  have HRH := Lib.hid (RH.chg hcq (fun q hq e => RH.ne hb3 (by decide) (by rw [hq]; exact congrArg some e)))
  have HE := Lib.hid (Ext.chg ((hx0.trans hz1).trans hz2) hcq (fun i hi => by have h1 : i = w.heap.size + 1 + 1 + 1 := hi; omega))
  have HWQ := Lib.hid hwq
  have HBQ := Lib.hid hbq
  have fR0 := fr_of hb3 0
  have fR1 := fr_of hb3 1
  have fR2 := fr_of hb3 2
  clear hwq hbq hcq hb3
  try clear cf5
  try clear cf6
  try clear cf7
  try clear cf8
  have cf9 := blk2 (Ext.block (hz1.trans hz2) HB0.out.1)
  have cf10 := blk4 (Ext.block (hz1.trans hz2) HB0.out.2.1)
  have cf11 := blk3 (Ext.block (hz1.trans hz2) HB0.out.2.2.1)
  have cf12 := blk3 (Ext.block (hz1.trans hz2) HB0.out.2.2.2)
  go_wp2_with fail
  rw [← HWQ.out]
  clear fR0 fR1 fR2
  try clear cf9
  try clear cf10
  try clear cf11
  try clear cf12
  have cc9 := blk3 HBQ.out
  refine bodyPost_ret (v := .tuple #[.agg #[.int .i64 s.ts, .int .i64 s.beta, .slice oc s.hops.length cc], .bool false]) (by simp [results, Try.results16, go_sem, cc9]) rfl ?_
  exact ⟨_, rfl, HRH.out, HE.out⟩
 ·
  try clear cf1
  try clear cf2
  try clear cf3
  try clear cf4
  have cf13 := blk2 (Ext.block hz1 HB0.out.1)
  have cf14 := blk4 (Ext.block hz1 HB0.out.2.1)
  have cf15 := blk3 (Ext.block hz1 HB0.out.2.2.1)
  have cf16 := blk3 (Ext.block hz1 HB0.out.2.2.2)
  go_wp2_with fail
  refine (s_Allows p s _ 0 _ (rs.ext (hx0.trans hz1)) (by omega)).mono ?_
  rintro e w3 ⟨rfl, hz3⟩
  cases b2 : allows p s 0
  ·
   have hX0 : (s, false) = (x, ok) := by rw [← HX.out]; unfold terminate; rw [b1, b2]; rfl
   cases hX0
   try clear cf13
   try clear cf14
   try clear cf15
   try clear cf16
   have cf17 := blk2 (Ext.block (hz1.trans hz3) HB0.out.1)
   have cf18 := blk4 (Ext.block (hz1.trans hz3) HB0.out.2.1)
   have cf19 := blk3 (Ext.block (hz1.trans hz3) HB0.out.2.2.1)
   have cf20 := blk3 (Ext.block (hz1.trans hz3) HB0.out.2.2.2)
   go_wp2_with fail
   refine (s_l9Copy s _ _ (rs.ext ((hx0.trans hz1).trans hz3)) (by omega)).mono ?_
   rintro e w4 ⟨vc, rfl, RH, hz4⟩
   replace RH := RH.mono (base' := w.heap.size) (Ext.size ((hx0.trans hz1).trans hz3))
   obtain ⟨oc, cc, rfl, _⟩ := (OwnF.rd (hf := Hop.flen) RH).shape
   have hb3 := Ext.block ((hz1.trans hz3).trans hz4) HB0.out.2.2.2
   obtain ⟨wq, hwq, hbq, hcq⟩ := three_set hb3 (.int .i64 s.ts) (.int .i64 s.beta) (.slice oc s.hops.length cc)
   have HRH := Lib.hid (RH.chg hcq (fun q hq e => RH.ne hb3 (by decide) (by rw [hq]; exact congrArg some e)))
   have HE := Lib.hid (Ext.chg (((hx0.trans hz1).trans hz3).trans hz4) hcq (fun i hi => by have h1 : i = w.heap.size + 1 + 1 + 1 := hi; omega))
   have HWQ := Lib.hid hwq
   have HBQ := Lib.hid hbq
   have fR0 := fr_of hb3 0
   have fR1 := fr_of hb3 1
   have fR2 := fr_of hb3 2
   clear hwq hbq hcq hb3
   try clear cf17
   try clear cf18
   try clear cf19
   try clear cf20
   have cf21 := blk2 (Ext.block ((hz1.trans hz3).trans hz4) HB0.out.1)
   have cf22 := blk4 (Ext.block ((hz1.trans hz3).trans hz4) HB0.out.2.1)
   have cf23 := blk3 (Ext.block ((hz1.trans hz3).trans hz4) HB0.out.2.2.1)
   have cf24 := blk3 (Ext.block ((hz1.trans hz3).trans hz4) HB0.out.2.2.2)
   go_wp2_with fail
   rw [← HWQ.out]
   clear fR0 fR1 fR2
   try clear cf21
   try clear cf22
   try clear cf23
   try clear cf24
   have cc9 := blk3 HBQ.out
   refine bodyPost_ret (v := .tuple #[.agg #[.int .i64 s.ts, .int .i64 s.beta, .slice oc s.hops.length cc], .bool false]) (by simp [results, Try.results16, go_sem, cc9]) rfl ?_
   exact ⟨_, rfl, HRH.out, HE.out⟩
  ·
   have hX0 : (ended t p s r inn, true) = (x, ok) := by rw [← HX.out]; unfold terminate; rw [b1, b2]; rfl
   cases hX0
   have HA := Lib.hid (canExt_as b1)
   clear b1 b2
   try clear cf13
   try clear cf14
   try clear cf15
   try clear cf16
   have cf25 := blk2 (Ext.block (hz1.trans hz3) HB0.out.1)
   have cf26 := blk4 (Ext.block (hz1.trans hz3) HB0.out.2.1)
   have cf27 := blk3 (Ext.block (hz1.trans hz3) HB0.out.2.2.1)
   have cf28 := blk3 (Ext.block (hz1.trans hz3) HB0.out.2.2.2)
   go_wp2_with fail
   refine (s_l13Add t _ _ p s _ r inn 0 _ (ha.ext ((hx0.trans hz1).trans hz3)) (rs.ext ((hx0.trans hz1).trans hz3)) HA.out hl).mono ?_
   rintro e w5 ⟨vc, rfl, RH, hz5⟩
   rw [grown_end] at RH
   replace RH := RH.mono (base' := w.heap.size) (Ext.size ((hx0.trans hz1).trans hz3))
   obtain ⟨oc, cc, rfl⟩ : ∃ oc cc, vc = .slice oc (s.hops.length + 1) cc := by obtain ⟨o', c', h, _⟩ := (OwnF.rd (hf := Hop.flen) RH).shape; exact ⟨o', c', by simpa using h⟩
   have hb3 := Ext.block ((hz1.trans hz3).trans hz5) HB0.out.2.2.2
   obtain ⟨wq, hwq, hbq, hcq⟩ := three_set hb3 (.int .i64 s.ts) (.int .i64 s.beta) (.slice oc (s.hops.length + 1) cc)
   have HRH := Lib.hid (RH.chg hcq (fun q hq e => RH.ne hb3 (by decide) (by rw [hq]; exact congrArg some e)))
   have HE := Lib.hid (Ext.chg (((hx0.trans hz1).trans hz3).trans hz5) hcq (fun i hi => by have h1 : i = w.heap.size + 1 + 1 + 1 := hi; omega))
   have HWQ := Lib.hid hwq
   have HBQ := Lib.hid hbq
   have fR0 := fr_of hb3 0
   have fR1 := fr_of hb3 1
   have fR2 := fr_of hb3 2
   clear hwq hbq hcq hb3
   try clear cf25
   try clear cf26
   try clear cf27
   try clear cf28
   have cf29 := blk2 (Ext.block ((hz1.trans hz3).trans hz5) HB0.out.1)
   have cf30 := blk4 (Ext.block ((hz1.trans hz3).trans hz5) HB0.out.2.1)
   have cf31 := blk3 (Ext.block ((hz1.trans hz3).trans hz5) HB0.out.2.2.1)
   have cf32 := blk3 (Ext.block ((hz1.trans hz3).trans hz5) HB0.out.2.2.2)
   go_wp2_with fail
   rw [← HWQ.out]
   clear fR0 fR1 fR2
   try clear cf29
   try clear cf30
   try clear cf31
   try clear cf32
   have cc9 := blk3 HBQ.out
   refine bodyPost_ret (v := .tuple #[.agg #[.int .i64 s.ts, .int .i64 s.beta, .slice oc (s.hops.length + 1) cc], .bool true]) (by simp [results, Try.results16, go_sem, cc9]) rfl ?_
   exact ⟨_, rfl, HRH.out, HE.out⟩

end Go.Proofs.Ytcpfmhgfaliemaa
