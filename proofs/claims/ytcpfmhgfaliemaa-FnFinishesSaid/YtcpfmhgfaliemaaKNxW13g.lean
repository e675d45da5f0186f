/- A segment with another hop, program and reference. No condition but the bounds that each theorem names. -/
import Derived.Test.YtcpfmhgfaliemaaKN20
namespace Go.Proofs.Ytcpfmhgfaliemaa
open Go.ChangeShapes Go.WideShapes Go.ChangeAt Go.RowKit Go.Deep

theorem al4G (w : World) (o1 o2 o3 o4 : Obj) : ((((w.alloc o1).alloc o2).alloc o3).alloc o4).heap[w.heap.size]? = some o1 ∧ ((((w.alloc o1).alloc o2).alloc o3).alloc o4).heap[w.heap.size + 1]? = some o2 ∧ ((((w.alloc o1).alloc o2).alloc o3).alloc o4).heap[w.heap.size + 1 + 1]? = some o3 ∧ ((((w.alloc o1).alloc o2).alloc o3).alloc o4).heap[w.heap.size + 1 + 1 + 1]? = some o4 := by
 have h := al3 w o1 o2 o3
 refine ⟨Ext.block ((Ext.refl _).alloc o4) h.1, Ext.block ((Ext.refl _).alloc o4) h.2.1, Ext.block ((Ext.refl _).alloc o4) h.2.2, ?_⟩
 have h4 := blk_new (((w.alloc o1).alloc o2).alloc o3) o4
 simpa using h4
theorem ext4G (w : World) (o1 o2 o3 o4 : Obj) : Ext w ((((w.alloc o1).alloc o2).alloc o3).alloc o4) := (ext3 w o1 o2 o3).alloc o4
/-- The segment with another hop. -/
def grownHop (t : Topo) (p : Pol) (s : Seg) (r inn out : Int) : Hop := sealHop (asAt t r).key s.ts (betaAt s s.hops.length) ⟨r, inn, out, expFor p s.ts, 0⟩

set_option maxRecDepth 100000 in
set_option maxHeartbeats 8000000 in
theorem i_grown (t : Topo) (v1 v2 : Value) (p : Pol) (s : Seg) (v : Value) (r inn out : Int) (w : World) (ha : RdS ASd.rep w v1 t.ases) (rs : RdS Hop.rep w v s.hops) (hA : isAs t r = true) (hl : s.hops.length ≤ 1000000) :
  Calls Try.prog 50 #[.agg #[v1, v2], .agg #[.int .i64 p.most, .int .i64 p.den, .int .i64 p.clo, .int .i64 p.life], .agg #[.int .i64 s.ts, .int .i64 s.beta, v], .int .i64 r, .int .i64 inn, .int .i64 out] w fun e w' => ∃ v', e = .returned (.agg #[.int .i64 s.ts, .int .i64 s.beta, v']) ∧ OwnF Hop.f 5 w.heap.size 108 w' v' (s.hops ++ [grownHop t p s r inn out]) ∧ Ext w w' := by
 obtain ⟨EH⟩ := elemHop
 obtain ⟨o, cap, rfl, hsm⟩ := rs.shape
 obtain ⟨oA, cA, rfl, _⟩ := ha.shape
 obtain ⟨hr0, hr1⟩ := isAs_lt hA
 obtain ⟨n, rfl⟩ := Int.eq_ofNat_of_zero_le hr0
 have hn : n < t.ases.length := by simpa using hr1
 have hn2 : (n : Int) < t.ases.length := by omega
 obtain ⟨b1, off, rfl, hc⟩ := ASd.at ha n hn
 have HG : Hid (∀ (ex be : Int), expFor p s.ts = ex → betaAt s s.hops.length = be → grownHop t p s n inn out = ⟨n, inn, out, ex, hopMac t.ases[n].key s.ts be ⟨n, inn, out, ex, 0⟩⟩) := Lib.hid (fun ex be h1 h2 => by
  unfold grownHop
  rw [h1, h2, asAt_at hr0 hr1]; rfl)
 clear hr0 hr1 hA
 have hx0 := ext4G w (.cells #[.slice (some ⟨b1, off, none⟩) t.ases.length cA, v2] 41) (.cells #[.int .i64 p.most, .int .i64 p.den, .int .i64 p.clo, .int .i64 p.life] 57) (.cells #[.int .i64 s.ts, .int .i64 s.beta, .slice o s.hops.length cap] 60) (.cells #[.int .i64 0, .int .i64 0, .slice none 0 0] 60)
 have HB0 := Lib.hid (al4G w (.cells #[.slice (some ⟨b1, off, none⟩) t.ases.length cA, v2] 41) (.cells #[.int .i64 p.most, .int .i64 p.den, .int .i64 p.clo, .int .i64 p.life] 57) (.cells #[.int .i64 s.ts, .int .i64 s.beta, .slice o s.hops.length cap] 60) (.cells #[.int .i64 0, .int .i64 0, .slice none 0 0] 60))
 go_enter Try.func50, Try.ntmps50
 have cf1 := blk2 HB0.out.1
 have cf2 := blk4 HB0.out.2.1
 have cf3 := blk3 HB0.out.2.2.1
 have cf4 := blk3 HB0.out.2.2.2
 have cf5 := ASd.at_ext hx0 hc
 go_wp2_with fail
 refine (i_ExpiryFor p s.ts _).mono ?_
 rintro e w1 ⟨rfl, hz1⟩
 obtain ⟨ex, hex⟩ : ∃ ex, expFor p s.ts = ex := ⟨_, rfl⟩
 rw [hex]
 have HEX := Lib.hid hex
 clear hex
 have hxh : Ext w1 (w1.alloc (.cells #[.int .i64 n, .int .i64 inn, .int .i64 out, .int .i64 ex, .int .i64 0] 108)) := (Ext.refl _).alloc _
 have HBh := Lib.hid (blk_new w1 (.cells #[.int .i64 n, .int .i64 inn, .int .i64 out, .int .i64 ex, .int .i64 0] 108))
 try clear cf1
 try clear cf2
 try clear cf3
 try clear cf4
 try clear cf5
 have cf6 := blk2 (Ext.block (hz1.trans hxh) HB0.out.1)
 have cf7 := blk4 (Ext.block (hz1.trans hxh) HB0.out.2.1)
 have cf8 := blk3 (Ext.block (hz1.trans hxh) HB0.out.2.2.1)
 have cf9 := blk3 (Ext.block (hz1.trans hxh) HB0.out.2.2.2)
 have cf10 := blk5 HBh.out
 have cf11 := ASd.at_ext ((hx0.trans hz1).trans hxh) hc
 go_wp2_with fail
 refine (i_copySegment s _ _ (rs.ext ((hx0.trans hz1).trans hxh)) (by omega)).mono ?_
 rintro e w2 ⟨vc, rfl, RH, hz2⟩
 replace RH := RH.mono (base' := w.heap.size) (Ext.size ((hx0.trans hz1).trans hxh))
 obtain ⟨oc, cc, rfl, _⟩ := (OwnF.rd (hf := Hop.flen) RH).shape
 have hxn : Ext w2 (w2.alloc (.cells #[.int .i64 s.ts, .int .i64 s.beta, .slice oc s.hops.length cc] 60)) := (Ext.refl _).alloc _
 have HBn := Lib.hid (blk_new w2 (.cells #[.int .i64 s.ts, .int .i64 s.beta, .slice oc s.hops.length cc] 60))
 have hbn0 : w.heap.size + 1 + 1 + 1 < w2.heap.size := by have h1 := Ext.size ((hz1.trans hxh).trans hz2); simp at h1; omega
 try clear cf6
 try clear cf7
 try clear cf8
 try clear cf9
 try clear cf10
 try clear cf11
 have cf12 := blk2 (Ext.block (((hz1.trans hxh).trans hz2).trans hxn) HB0.out.1)
 have cf13 := blk4 (Ext.block (((hz1.trans hxh).trans hz2).trans hxn) HB0.out.2.1)
 have cf14 := blk3 (Ext.block (((hz1.trans hxh).trans hz2).trans hxn) HB0.out.2.2.1)
 have cf15 := blk3 (Ext.block (((hz1.trans hxh).trans hz2).trans hxn) HB0.out.2.2.2)
 have cf16 := blk5 (Ext.block (hz2.trans hxn) HBh.out)
 have cf17 := blk3 HBn.out
 have cf18 := ASd.at_ext ((((hx0.trans hz1).trans hxh).trans hz2).trans hxn) hc
 go_wp2_with fail
 refine planStep (.blk [0, 1, 2, 3, 4, 5, 6, 7, 8, 9, 10, 11, 12, 13, 15] (.one 14 (.one 16 (.one 17 (.one 18 (.blk [19] (.one 20 .done))))))) [18, 20] (by kernel_rfl) (by kernel_rfl) ?_
 try clear cf12
 try clear cf13
 try clear cf14
 try clear cf15
 try clear cf16
 try clear cf17
 try clear cf18
 have cf19 := blk2 (Ext.block ((((hz1.trans hxh).trans hz2).trans hxn).trans ((Ext.refl _).drew)) HB0.out.1)
 have cf20 := blk4 (Ext.block ((((hz1.trans hxh).trans hz2).trans hxn).trans ((Ext.refl _).drew)) HB0.out.2.1)
 have cf21 := blk3 (Ext.block ((((hz1.trans hxh).trans hz2).trans hxn).trans ((Ext.refl _).drew)) HB0.out.2.2.1)
 have cf22 := blk3 (Ext.block ((((hz1.trans hxh).trans hz2).trans hxn).trans ((Ext.refl _).drew)) HB0.out.2.2.2)
 have cf23 := blk5 (Ext.block ((hz2.trans hxn).trans ((Ext.refl _).drew)) HBh.out)
 have cf24 := blk3 (Ext.block ((Ext.refl _).drew) HBn.out)
 have cf25 := ASd.at_ext (((((hx0.trans hz1).trans hxh).trans hz2).trans hxn).trans ((Ext.refl _).drew)) hc
 refine blkStep (fun K HK => ?_)
 simp only [PK]
 go_wp2_with fail
 refine HK.out _ _ ?_
 clear HK K
 refine oneStep (fun K HK => ?_)
 simp only [PK]
 go_wp2_with fail
 refine (i_BetaAt s _ (s.hops.length : Int) _ (rs.ext (((((hx0.trans hz1).trans hxh).trans hz2).trans hxn).trans ((Ext.refl _).drew))) (by omega)).mono ?_
 rintro e w3 ⟨rfl, hz3⟩
 obtain ⟨be, hbe⟩ : ∃ be, betaAt s s.hops.length = be := ⟨_, rfl⟩
 rw [hbe]
 have HBE := Lib.hid hbe
 clear hbe
 try clear cf19
 try clear cf20
 try clear cf21
 try clear cf22
 try clear cf23
 try clear cf24
 try clear cf25
 have cf26 := blk2 (Ext.block (((((hz1.trans hxh).trans hz2).trans hxn).trans ((Ext.refl _).drew)).trans hz3) HB0.out.1)
 have cf27 := blk4 (Ext.block (((((hz1.trans hxh).trans hz2).trans hxn).trans ((Ext.refl _).drew)).trans hz3) HB0.out.2.1)
 have cf28 := blk3 (Ext.block (((((hz1.trans hxh).trans hz2).trans hxn).trans ((Ext.refl _).drew)).trans hz3) HB0.out.2.2.1)
 have cf29 := blk3 (Ext.block (((((hz1.trans hxh).trans hz2).trans hxn).trans ((Ext.refl _).drew)).trans hz3) HB0.out.2.2.2)
 have cf30 := blk5 (Ext.block (((hz2.trans hxn).trans ((Ext.refl _).drew)).trans hz3) HBh.out)
 have cf31 := blk3 (Ext.block (((Ext.refl _).drew).trans hz3) HBn.out)
 have cf32 := ASd.at_ext ((((((hx0.trans hz1).trans hxh).trans hz2).trans hxn).trans ((Ext.refl _).drew)).trans hz3) hc
 go_wp2_with fail
 refine HK.out _ _ hz3 ?_
 clear HK K
 refine oneStep (fun K HK => ?_)
 simp only [PK]
 go_wp2_with fail
 refine (i_AuthenticateHop t.ases[n].key s.ts be ⟨n, inn, out, ex, 0⟩ _).mono ?_
 rintro e w4 ⟨rfl, hz4⟩
 try clear cf26
 try clear cf27
 try clear cf28
 try clear cf29
 try clear cf30
 try clear cf31
 try clear cf32
 have cf33 := blk2 (Ext.block ((((((hz1.trans hxh).trans hz2).trans hxn).trans ((Ext.refl _).drew)).trans hz3).trans hz4) HB0.out.1)
 have cf34 := blk4 (Ext.block ((((((hz1.trans hxh).trans hz2).trans hxn).trans ((Ext.refl _).drew)).trans hz3).trans hz4) HB0.out.2.1)
 have cf35 := blk3 (Ext.block ((((((hz1.trans hxh).trans hz2).trans hxn).trans ((Ext.refl _).drew)).trans hz3).trans hz4) HB0.out.2.2.1)
 have cf36 := blk3 (Ext.block ((((((hz1.trans hxh).trans hz2).trans hxn).trans ((Ext.refl _).drew)).trans hz3).trans hz4) HB0.out.2.2.2)
 have cf37 := blk5 (Ext.block ((((hz2.trans hxn).trans ((Ext.refl _).drew)).trans hz3).trans hz4) HBh.out)
 have cf38 := blk3 (Ext.block ((((Ext.refl _).drew).trans hz3).trans hz4) HBn.out)
 have cf39 := ASd.at_ext (((((((hx0.trans hz1).trans hxh).trans hz2).trans hxn).trans ((Ext.refl _).drew)).trans hz3).trans hz4) hc
 go_wp2_with fail
 refine HK.out _ _ hz4 ?_
 clear HK K
 have HGE := Lib.hid (HG.out ex be HEX.out HBE.out)
 generalize hmc : hopMac t.ases[n].key s.ts be ⟨n, inn, out, ex, 0⟩ = mc at HGE ⊢
 clear hmc
 refine oneStep (fun K HK => ?_)
 simp only [PK]
 go_wp2_with fail
 refine HK.out _ _ ((Ext.refl _).alloc _) ?_
 clear HK K
 have HX := Lib.hid ((((((((hx0.trans hz1).trans hxh).trans hz2).trans hxn).trans ((Ext.refl _).drew)).trans hz3).trans hz4).alloc (.cells #[.int .i64 n, .int .i64 inn, .int .i64 out, .int .i64 ex, .int .i64 mc] 108))
 have ho0 := OwnF.ext RH ((((hxn.trans ((Ext.refl _).drew)).trans hz3).trans hz4).alloc (.cells #[.int .i64 n, .int .i64 inn, .int .i64 out, .int .i64 ex, .int .i64 mc] 108))
 have hbN := Ext.block (((((Ext.refl _).drew).trans hz3).trans hz4).alloc (.cells #[.int .i64 n, .int .i64 inn, .int .i64 out, .int .i64 ex, .int .i64 mc] 108)) HBn.out
 have hbR := Ext.block (((((((hz1.trans hxh).trans hz2).trans hxn).trans ((Ext.refl _).drew)).trans hz3).trans hz4).alloc (.cells #[.int .i64 n, .int .i64 inn, .int .i64 out, .int .i64 ex, .int .i64 mc] 108)) HB0.out.2.2.2
 try clear cf33
 try clear cf34
 try clear cf35
 try clear cf36
 try clear cf37
 try clear cf38
 try clear cf39
 refine badStep (by kernel_rfl) (fun K HK => ?_)
 simp only [PK]
 refine app1 EH Hop.flen Hop.one rfl _ _ rfl (⟨n, inn, out, ex, mc⟩ : Hop) rfl ho0 rfl (by exact blk_list (Hop.f ⟨n, inn, out, ex, mc⟩) (blk_new _ _)) (by omega) (by unfold maxLen; omega) (by have h1 := HX.out.size; simp at h1 ⊢; omega) ?_
 intro v' w' ho' hg'
 have hxA := HX.out.app (e := 108) hg' ho0 (Nat.le_refl _)
 have hbN2 := own_ne ho0 hbN (by decide) hg'
 have hbR2 := own_ne ho0 hbR (by decide) hg'
 clear hbN hbR hg' ho0
 go_wp2_with fail
 refine HK.out _ _ ?_
 clear HK K
 obtain ⟨oN, cN, rfl⟩ : ∃ oN cN, v' = .slice oN (s.hops.length + 1) cN := by obtain ⟨o', c', h, _⟩ := (OwnF.rd (hf := Hop.flen) ho').shape; exact ⟨o', c', by simpa using h⟩
 have HXA := Lib.hid hxA
 clear hxA
 have cf := blk3 hbN2
 have ff := fr_of hbN2 2
 refine blkStep (fun K HK => ?_)
 simp only [PK]
 go_wp2_with fail
 refine HK.out _ _ ?_
 clear HK K
 have hb3x := hbR2
 obtain ⟨wx, hwx, hbx, hcx⟩ := one_set hbN2 2 (.slice oN (s.hops.length + 1) cN)
 simp only [List.setIfInBounds_toArray, List.set_cons_succ, List.set_cons_zero] at hbx
 have hb3 := hcx.blkS hbR2 (by unfold at1; omega)
 obtain ⟨wq, hwq, hbq, hcq⟩ := three_set hb3 (.int .i64 s.ts) (.int .i64 s.beta) (.slice oN (s.hops.length + 1) cN)
 have HRH := Lib.hid ((ho'.chg hcx (fun q hq e => ho'.ne hbN2 (by decide) (by rw [hq]; exact congrArg some e))).chg hcq (fun q hq e => ho'.ne hbR2 (by decide) (by rw [hq]; exact congrArg some e)))
 have HE := Lib.hid ((HXA.out.chg hcx (fun i hi => by have h1 : i = w2.heap.size := hi; omega)).chg hcq (fun i hi => by have h1 : i = w.heap.size + 1 + 1 + 1 := hi; omega))
 have HWX := Lib.hid hwx
 have HWQ := Lib.hid hwq
 have HBX := Lib.hid hbx
 have HB3 := Lib.hid hb3
 have HBQ := Lib.hid hbq
 clear hwx hwq hbx hb3 hbq hcx hcq hbN2 hbR2 hb3x ho'
 refine badStep (by kernel_rfl) (fun K HK => ?_)
 simp only [PK]
 go_wp2_with fail
 refine HK.out _ _ ?_
 clear HK K cf ff
 refine doneStep (by kernel_rfl) ?_
 rw [← HWX.out]
 have cX := blk3 HBX.out
 have cR := blk3 HB3.out
 have fR0 := fr_of HB3.out 0
 have fR1 := fr_of HB3.out 1
 have fR2 := fr_of HB3.out 2
 go_wp2_with fail
 rw [← HWQ.out]
 clear cX cR fR0 fR1 fR2
 have cc := blk3 HBQ.out
 refine bodyPost_ret (v := .agg #[.int .i64 s.ts, .int .i64 s.beta, .slice oN (s.hops.length + 1) cN]) (by simp [results, Try.results50, go_sem, cc]) rfl ?_
 exact ⟨_, rfl, by rw [HGE.out]; exact HRH.out, HE.out⟩

set_option maxRecDepth 100000 in
set_option maxHeartbeats 8000000 in
theorem s_l13Add (t : Topo) (v1 v2 : Value) (p : Pol) (s : Seg) (v : Value) (r inn out : Int) (w : World) (ha : RdS ASd.rep w v1 t.ases) (rs : RdS Hop.rep w v s.hops) (hA : isAs t r = true) (hl : s.hops.length ≤ 1000000) :
  Calls Try.prog 54 #[.agg #[v1, v2], .agg #[.int .i64 p.most, .int .i64 p.den, .int .i64 p.clo, .int .i64 p.life], .agg #[.int .i64 s.ts, .int .i64 s.beta, v], .int .i64 r, .int .i64 inn, .int .i64 out] w fun e w' => ∃ v', e = .returned (.agg #[.int .i64 s.ts, .int .i64 s.beta, v']) ∧ OwnF Hop.f 5 w.heap.size 108 w' v' (s.hops ++ [grownHop t p s r inn out]) ∧ Ext w w' := by
 obtain ⟨EH⟩ := elemHop
 obtain ⟨o, cap, rfl, hsm⟩ := rs.shape
 obtain ⟨oA, cA, rfl, _⟩ := ha.shape
 obtain ⟨hr0, hr1⟩ := isAs_lt hA
 obtain ⟨n, rfl⟩ := Int.eq_ofNat_of_zero_le hr0
 have hn : n < t.ases.length := by simpa using hr1
 have hn2 : (n : Int) < t.ases.length := by omega
 obtain ⟨b1, off, rfl, hc⟩ := ASd.at ha n hn
 have HG : Hid (∀ (ex be : Int), expFor p s.ts = ex → betaAt s s.hops.length = be → grownHop t p s n inn out = ⟨n, inn, out, ex, hopMac t.ases[n].key s.ts be ⟨n, inn, out, ex, 0⟩⟩) := Lib.hid (fun ex be h1 h2 => by
  unfold grownHop
  rw [h1, h2, asAt_at hr0 hr1]; rfl)
 clear hr0 hr1 hA
 have hx0 := ext4G w (.cells #[.slice (some ⟨b1, off, none⟩) t.ases.length cA, v2] 41) (.cells #[.int .i64 p.most, .int .i64 p.den, .int .i64 p.clo, .int .i64 p.life] 57) (.cells #[.int .i64 s.ts, .int .i64 s.beta, .slice o s.hops.length cap] 60) (.cells #[.int .i64 0, .int .i64 0, .slice none 0 0] 60)
 have HB0 := Lib.hid (al4G w (.cells #[.slice (some ⟨b1, off, none⟩) t.ases.length cA, v2] 41) (.cells #[.int .i64 p.most, .int .i64 p.den, .int .i64 p.clo, .int .i64 p.life] 57) (.cells #[.int .i64 s.ts, .int .i64 s.beta, .slice o s.hops.length cap] 60) (.cells #[.int .i64 0, .int .i64 0, .slice none 0 0] 60))
 go_enter Try.func54, Try.ntmps54
 have cf1 := blk2 HB0.out.1
 have cf2 := blk4 HB0.out.2.1
 have cf3 := blk3 HB0.out.2.2.1
 have cf4 := blk3 HB0.out.2.2.2
 have cf5 := ASd.at_ext hx0 hc
 go_wp2_with fail
 refine (s_l9Copy s _ _ (rs.ext hx0) (by omega)).mono ?_
 rintro e w1 ⟨vc, rfl, RH, hz1⟩
 replace RH := RH.mono (base' := w.heap.size) (Ext.size hx0)
 obtain ⟨oc, cc, rfl, _⟩ := (OwnF.rd (hf := Hop.flen) RH).shape
 have hxn : Ext w1 (w1.alloc (.cells #[.int .i64 s.ts, .int .i64 s.beta, .slice oc s.hops.length cc] 60)) := (Ext.refl _).alloc _
 have HBn := Lib.hid (blk_new w1 (.cells #[.int .i64 s.ts, .int .i64 s.beta, .slice oc s.hops.length cc] 60))
 try clear cf1
 try clear cf2
 try clear cf3
 try clear cf4
 try clear cf5
 have cf6 := blk2 (Ext.block (hz1.trans hxn) HB0.out.1)
 have cf7 := blk4 (Ext.block (hz1.trans hxn) HB0.out.2.1)
 have cf8 := blk3 (Ext.block (hz1.trans hxn) HB0.out.2.2.1)
 have cf9 := blk3 (Ext.block (hz1.trans hxn) HB0.out.2.2.2)
 have cf10 := blk3 HBn.out
 have cf11 := ASd.at_ext ((hx0.trans hz1).trans hxn) hc
 go_wp2_with fail
 refine (s_ExpiryFor p s.ts _).mono ?_
 rintro e w2 ⟨rfl, hz2⟩
 obtain ⟨ex, hex⟩ : ∃ ex, expFor p s.ts = ex := ⟨_, rfl⟩
 rw [hex]
 have HEX := Lib.hid hex
 clear hex
 have hxh : Ext w2 (w2.alloc (.cells #[.int .i64 n, .int .i64 inn, .int .i64 out, .int .i64 ex, .int .i64 0] 108)) := (Ext.refl _).alloc _
 have HBh := Lib.hid (blk_new w2 (.cells #[.int .i64 n, .int .i64 inn, .int .i64 out, .int .i64 ex, .int .i64 0] 108))
 have hbn0 : w.heap.size + 1 + 1 + 1 < w1.heap.size := by have h1 := Ext.size hz1; simp at h1; omega
 try clear cf6
 try clear cf7
 try clear cf8
 try clear cf9
 try clear cf10
 try clear cf11
 have cf12 := blk2 (Ext.block (((hz1.trans hxn).trans hz2).trans hxh) HB0.out.1)
 have cf13 := blk4 (Ext.block (((hz1.trans hxn).trans hz2).trans hxh) HB0.out.2.1)
 have cf14 := blk3 (Ext.block (((hz1.trans hxn).trans hz2).trans hxh) HB0.out.2.2.1)
 have cf15 := blk3 (Ext.block (((hz1.trans hxn).trans hz2).trans hxh) HB0.out.2.2.2)
 have cf16 := blk3 (Ext.block (hz2.trans hxh) HBn.out)
 have cf17 := blk5 HBh.out
 have cf18 := ASd.at_ext ((((hx0.trans hz1).trans hxn).trans hz2).trans hxh) hc
 go_wp2_with fail
 refine planStep (.blk [0, 1, 2, 3, 4, 5, 6, 7, 8, 9, 10, 11, 12, 13, 15] (.one 14 (.one 16 (.one 17 (.one 18 (.blk [19] (.one 20 .done))))))) [18, 20] (by kernel_rfl) (by kernel_rfl) ?_
 try clear cf12
 try clear cf13
 try clear cf14
 try clear cf15
 try clear cf16
 try clear cf17
 try clear cf18
 have cf19 := blk2 (Ext.block ((((hz1.trans hxn).trans hz2).trans hxh).trans ((Ext.refl _).drew)) HB0.out.1)
 have cf20 := blk4 (Ext.block ((((hz1.trans hxn).trans hz2).trans hxh).trans ((Ext.refl _).drew)) HB0.out.2.1)
 have cf21 := blk3 (Ext.block ((((hz1.trans hxn).trans hz2).trans hxh).trans ((Ext.refl _).drew)) HB0.out.2.2.1)
 have cf22 := blk3 (Ext.block ((((hz1.trans hxn).trans hz2).trans hxh).trans ((Ext.refl _).drew)) HB0.out.2.2.2)
 have cf23 := blk3 (Ext.block ((hz2.trans hxh).trans ((Ext.refl _).drew)) HBn.out)
 have cf24 := blk5 (Ext.block ((Ext.refl _).drew) HBh.out)
 have cf25 := ASd.at_ext (((((hx0.trans hz1).trans hxn).trans hz2).trans hxh).trans ((Ext.refl _).drew)) hc
 refine blkStep (fun K HK => ?_)
 simp only [PK]
 go_wp2_with fail
 refine HK.out _ _ ?_
 clear HK K
 refine oneStep (fun K HK => ?_)
 simp only [PK]
 go_wp2_with fail
 refine (s_BetaAt s _ (s.hops.length : Int) _ (rs.ext (((((hx0.trans hz1).trans hxn).trans hz2).trans hxh).trans ((Ext.refl _).drew))) (by omega)).mono ?_
 rintro e w3 ⟨rfl, hz3⟩
 obtain ⟨be, hbe⟩ : ∃ be, betaAt s s.hops.length = be := ⟨_, rfl⟩
 rw [hbe]
 have HBE := Lib.hid hbe
 clear hbe
 try clear cf19
 try clear cf20
 try clear cf21
 try clear cf22
 try clear cf23
 try clear cf24
 try clear cf25
 have cf26 := blk2 (Ext.block (((((hz1.trans hxn).trans hz2).trans hxh).trans ((Ext.refl _).drew)).trans hz3) HB0.out.1)
 have cf27 := blk4 (Ext.block (((((hz1.trans hxn).trans hz2).trans hxh).trans ((Ext.refl _).drew)).trans hz3) HB0.out.2.1)
 have cf28 := blk3 (Ext.block (((((hz1.trans hxn).trans hz2).trans hxh).trans ((Ext.refl _).drew)).trans hz3) HB0.out.2.2.1)
 have cf29 := blk3 (Ext.block (((((hz1.trans hxn).trans hz2).trans hxh).trans ((Ext.refl _).drew)).trans hz3) HB0.out.2.2.2)
 have cf30 := blk3 (Ext.block (((hz2.trans hxh).trans ((Ext.refl _).drew)).trans hz3) HBn.out)
 have cf31 := blk5 (Ext.block (((Ext.refl _).drew).trans hz3) HBh.out)
 have cf32 := ASd.at_ext ((((((hx0.trans hz1).trans hxn).trans hz2).trans hxh).trans ((Ext.refl _).drew)).trans hz3) hc
 go_wp2_with fail
 refine HK.out _ _ hz3 ?_
 clear HK K
 refine oneStep (fun K HK => ?_)
 simp only [PK]
 go_wp2_with fail
 refine (s_AuthenticateHop t.ases[n].key s.ts be ⟨n, inn, out, ex, 0⟩ _).mono ?_
 rintro e w4 ⟨rfl, hz4⟩
 try clear cf26
 try clear cf27
 try clear cf28
 try clear cf29
 try clear cf30
 try clear cf31
 try clear cf32
 have cf33 := blk2 (Ext.block ((((((hz1.trans hxn).trans hz2).trans hxh).trans ((Ext.refl _).drew)).trans hz3).trans hz4) HB0.out.1)
 have cf34 := blk4 (Ext.block ((((((hz1.trans hxn).trans hz2).trans hxh).trans ((Ext.refl _).drew)).trans hz3).trans hz4) HB0.out.2.1)
 have cf35 := blk3 (Ext.block ((((((hz1.trans hxn).trans hz2).trans hxh).trans ((Ext.refl _).drew)).trans hz3).trans hz4) HB0.out.2.2.1)
 have cf36 := blk3 (Ext.block ((((((hz1.trans hxn).trans hz2).trans hxh).trans ((Ext.refl _).drew)).trans hz3).trans hz4) HB0.out.2.2.2)
 have cf37 := blk3 (Ext.block ((((hz2.trans hxh).trans ((Ext.refl _).drew)).trans hz3).trans hz4) HBn.out)
 have cf38 := blk5 (Ext.block ((((Ext.refl _).drew).trans hz3).trans hz4) HBh.out)
 have cf39 := ASd.at_ext (((((((hx0.trans hz1).trans hxn).trans hz2).trans hxh).trans ((Ext.refl _).drew)).trans hz3).trans hz4) hc
 go_wp2_with fail
 refine HK.out _ _ hz4 ?_
 clear HK K
 have HGE := Lib.hid (HG.out ex be HEX.out HBE.out)
 generalize hmc : hopMac t.ases[n].key s.ts be ⟨n, inn, out, ex, 0⟩ = mc at HGE ⊢
 clear hmc
 refine oneStep (fun K HK => ?_)
 simp only [PK]
 go_wp2_with fail
 refine HK.out _ _ ((Ext.refl _).alloc _) ?_
 clear HK K
 have HX := Lib.hid ((((((((hx0.trans hz1).trans hxn).trans hz2).trans hxh).trans ((Ext.refl _).drew)).trans hz3).trans hz4).alloc (.cells #[.int .i64 n, .int .i64 inn, .int .i64 out, .int .i64 ex, .int .i64 mc] 108))
 have ho0 := OwnF.ext RH ((((((hxn.trans hz2).trans hxh).trans ((Ext.refl _).drew)).trans hz3).trans hz4).alloc (.cells #[.int .i64 n, .int .i64 inn, .int .i64 out, .int .i64 ex, .int .i64 mc] 108))
 have hbN := Ext.block (((((hz2.trans hxh).trans ((Ext.refl _).drew)).trans hz3).trans hz4).alloc (.cells #[.int .i64 n, .int .i64 inn, .int .i64 out, .int .i64 ex, .int .i64 mc] 108)) HBn.out
 have hbR := Ext.block (((((((hz1.trans hxn).trans hz2).trans hxh).trans ((Ext.refl _).drew)).trans hz3).trans hz4).alloc (.cells #[.int .i64 n, .int .i64 inn, .int .i64 out, .int .i64 ex, .int .i64 mc] 108)) HB0.out.2.2.2
 try clear cf33
 try clear cf34
 try clear cf35
 try clear cf36
 try clear cf37
 try clear cf38
 try clear cf39
 refine badStep (by kernel_rfl) (fun K HK => ?_)
 simp only [PK]
 refine app1 EH Hop.flen Hop.one rfl _ _ rfl (⟨n, inn, out, ex, mc⟩ : Hop) rfl ho0 rfl (by exact blk_list (Hop.f ⟨n, inn, out, ex, mc⟩) (blk_new _ _)) (by omega) (by unfold maxLen; omega) (by have h1 := HX.out.size; simp at h1 ⊢; omega) ?_
 intro v' w' ho' hg'
 have hxA := HX.out.app (e := 108) hg' ho0 (Nat.le_refl _)
 have hbN2 := own_ne ho0 hbN (by decide) hg'
 have hbR2 := own_ne ho0 hbR (by decide) hg'
 clear hbN hbR hg' ho0
 go_wp2_with fail
 refine HK.out _ _ ?_
 clear HK K
 obtain ⟨oN, cN, rfl⟩ : ∃ oN cN, v' = .slice oN (s.hops.length + 1) cN := by obtain ⟨o', c', h, _⟩ := (OwnF.rd (hf := Hop.flen) ho').shape; exact ⟨o', c', by simpa using h⟩
 have HXA := Lib.hid hxA
 clear hxA
 have cf := blk3 hbN2
 have ff := fr_of hbN2 2
 refine blkStep (fun K HK => ?_)
 simp only [PK]
 go_wp2_with fail
 refine HK.out _ _ ?_
 clear HK K
 have hb3x := hbR2
 obtain ⟨wx, hwx, hbx, hcx⟩ := one_set hbN2 2 (.slice oN (s.hops.length + 1) cN)
 simp only [List.setIfInBounds_toArray, List.set_cons_succ, List.set_cons_zero] at hbx
 have hb3 := hcx.blkS hbR2 (by unfold at1; omega)
 obtain ⟨wq, hwq, hbq, hcq⟩ := three_set hb3 (.int .i64 s.ts) (.int .i64 s.beta) (.slice oN (s.hops.length + 1) cN)
 have HRH := Lib.hid ((ho'.chg hcx (fun q hq e => ho'.ne hbN2 (by decide) (by rw [hq]; exact congrArg some e))).chg hcq (fun q hq e => ho'.ne hbR2 (by decide) (by rw [hq]; exact congrArg some e)))
 have HE := Lib.hid ((HXA.out.chg hcx (fun i hi => by have h1 : i = w1.heap.size := hi; omega)).chg hcq (fun i hi => by have h1 : i = w.heap.size + 1 + 1 + 1 := hi; omega))
 have HWX := Lib.hid hwx
 have HWQ := Lib.hid hwq
 have HBX := Lib.hid hbx
 have HB3 := Lib.hid hb3
 have HBQ := Lib.hid hbq
 clear hwx hwq hbx hb3 hbq hcx hcq hbN2 hbR2 hb3x ho'
 refine badStep (by kernel_rfl) (fun K HK => ?_)
 simp only [PK]
 go_wp2_with fail
 refine HK.out _ _ ?_
 clear HK K cf ff
 refine doneStep (by kernel_rfl) ?_
 rw [← HWX.out]
 have cX := blk3 HBX.out
 have cR := blk3 HB3.out
 have fR0 := fr_of HB3.out 0
 have fR1 := fr_of HB3.out 1
 have fR2 := fr_of HB3.out 2
 go_wp2_with fail
 rw [← HWQ.out]
 clear cX cR fR0 fR1 fR2
 have cc := blk3 HBQ.out
 refine bodyPost_ret (v := .agg #[.int .i64 s.ts, .int .i64 s.beta, .slice oN (s.hops.length + 1) cN]) (by simp [results, Try.results54, go_sem, cc]) rfl ?_
 exact ⟨_, rfl, by rw [HGE.out]; exact HRH.out, HE.out⟩

end Go.Proofs.Ytcpfmhgfaliemaa
