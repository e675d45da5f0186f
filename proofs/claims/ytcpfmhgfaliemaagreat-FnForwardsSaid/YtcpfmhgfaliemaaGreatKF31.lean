/- What these laws need: FnForwards: The walk of the law on forwarding: an AS forwards exactly the packets that it has authenticated, in time, through the authenticated interfaces. -/
import Derived.Test.YtcpfmhgfaliemaaGreatKF19
import Derived.Test.YtcpfmhgfaliemaaGreatKF30
namespace Go.Proofs.YtcpfmhgfaliemaaGreat
section
open Go.ChangeShapes Go.WideShapes Go.ChangeAt Go.RowKit Go.Deep
set_option maxRecDepth 100000 in
set_option maxHeartbeats 40000000 in
theorem l_FnForwards (code : List Int) (cv : Value) (w : World) (hr : RdS Rep.byte w cv code) (hu : ∀ x ∈ code, U8 x) :
  Calls Tryz.prog 4 #[cv] w fun e w' => e = .returned (.bool true) ∧ Ext w w' := by
 obtain ⟨co, cc, rfl, _⟩ := hr.shape
 by_cases hbig : 1048576 < code.length
 ·
  have hb1 : decide (1048576 < code.length) = true := by simpa using hbig
  have HB1 := Lib.hid hb1; clear hb1
  go_enter Tryz.func4, Tryz.ntmps4
  go_wp2_with fail
  refine (l_big code _ _ hr).mono ?_; rintro e _ ⟨rfl, rfl⟩; rw [HB1.out]
  go_wp2_with fail
  go_ret
  exact ⟨rfl, Ext.refl _⟩
 have hb1 : decide (1048576 < code.length) = false := by simpa using hbig
 have hl : code.length ≤ 1048576 := by omega
 have HB1 := Lib.hid hb1; clear hb1 hbig
 go_enter Tryz.func4, Tryz.ntmps4
 go_wp2_with fail
 refine (l_big code _ _ hr).mono ?_; rintro e _ ⟨rfl, rfl⟩; rw [HB1.out]
 go_wp2_with fail
 refine (s_DrawForward code _ _ (hr.ext (Ext.refl _)) hu hl).mono ?_; rintro e w1 ⟨v1, v2, u0, u1, t, r, now, dead, inn, x, rfl, TK, hxb, RA, RL, R0, R1, hz1⟩; have rA := Own.rd _ RA; have rL := Own.rd _ RL; have r0 := Own.rd _ R0; have r1 := Own.rd _ R1; clear RA RL R0 R1; obtain ⟨o1, c1, rfl, _⟩ := rA.shape; obtain ⟨o2, c2, rfl, _⟩ := rL.shape; obtain ⟨o_0x, c_0x, rfl, _⟩ := r0.shape; obtain ⟨o_1x, c_1x, rfl, _⟩ := r1.shape; have hxs := hxb.size; have hxl := hxb.parts; have hx1 := ext2 w1 (.cells #[.slice o1 t.ases.length c1, .slice o2 t.links.length c2] 56) (.cells #[.int .i64 x.kind, .int .i64 x.src, .int .i64 x.dst, .slice o_0x x.path.parts.length c_0x, .int .i64 x.pi, .int .i64 x.hi, .int .i64 x.beta, .int .i64 x.rid, .int .i64 x.seq, .slice o_1x x.pay.length c_1x] 58); have HB1 := Lib.hid (al2 w1 (.cells #[.slice o1 t.ases.length c1, .slice o2 t.links.length c2] 56) (.cells #[.int .i64 x.kind, .int .i64 x.src, .int .i64 x.dst, .slice o_0x x.path.parts.length c_0x, .int .i64 x.pi, .int .i64 x.hi, .int .i64 x.beta, .int .i64 x.rid, .int .i64 x.seq, .slice o_1x x.pay.length c_1x] 58)); have cf1 := blk2 HB1.out.1; have cf2 := blk10 HB1.out.2
 go_wp2_with fail
 refine (i_Forward t _ _ r now dead inn x _ _ _ (rA.ext hx1) (rL.ext hx1) (r0.ext hx1) (r1.ext hx1) (by omega)).mono ?_; rintro e w2 ⟨a0, a1, rfl, OX, hz2⟩
 obtain ⟨cd, hcd⟩ : ∃ c, c = (forward t r now dead inn x).code := ⟨_, rfl⟩
 obtain ⟨eg, heg⟩ : ∃ c, c = (forward t r now dead inn x).eg := ⟨_, rfl⟩
 obtain ⟨z, hz⟩ : ∃ c, c = (forward t r now dead inn x).pkt := ⟨_, rfl⟩
 rw [← hz] at OX; rw [← hcd, ← heg, ← hz]; have HCD := Lib.hid hcd; have HEG := Lib.hid heg; have HZ := Lib.hid hz; have hzb : PktBd z := by rw [hz]; exact fw_bd hxb
 have hzl := hzb.parts; have hzs := hzb.size; clear hcd heg hz; have rz0 := Pkt.own_rd0 OX; have rz1 := Pkt.own_rd1 OX; clear OX; obtain ⟨o_0z, c_0z, rfl, _⟩ := rz0.shape; obtain ⟨o_1z, c_1z, rfl, _⟩ := rz1.shape; have hx2 : Ext w2 (w2.alloc (.cells #[.int .i64 cd, .int .i64 eg, .int .i64 z.kind, .int .i64 z.src, .int .i64 z.dst, .slice o_0z z.path.parts.length c_0z, .int .i64 z.pi, .int .i64 z.hi, .int .i64 z.beta, .int .i64 z.rid, .int .i64 z.seq, .slice o_1z z.pay.length c_1z] 62)) := (Ext.refl _).alloc _; have HB2 := Lib.hid (blk_new w2 (.cells #[.int .i64 cd, .int .i64 eg, .int .i64 z.kind, .int .i64 z.src, .int .i64 z.dst, .slice o_0z z.path.parts.length c_0z, .int .i64 z.pi, .int .i64 z.hi, .int .i64 z.beta, .int .i64 z.rid, .int .i64 z.seq, .slice o_1z z.pay.length c_1z] 62))
 try clear cf1
 try clear cf2
 have cf3 := blk2 (Ext.block (hz2.t hx2) HB1.out.1); have cf4 := blk10 (Ext.block (hz2.t hx2) HB1.out.2); have cf5 := blk12 HB2.out
 go_wp2_with fail
 refine (s_DrawVerdictName code _ _ (hr.ext (((hz1.t hx1).t hz2).t hx2)) hu hl).mono ?_; rintro e w3 ⟨n, rfl, hz3⟩
 try clear cf3
 try clear cf4
 try clear cf5
 have cf6 := blk2 (Ext.block ((hz2.t hx2).t hz3) HB1.out.1); have cf7 := blk10 (Ext.block ((hz2.t hx2).t hz3) HB1.out.2); have cf8 := blk12 (Ext.block hz3 HB2.out)
 go_wp2_with fail
 refine (s_DrawEqualVerdicts code _ _ (hr.ext ((((hz1.t hx1).t hz2).t hx2).t hz3)) hu hl).mono ?_; rintro e w4 ⟨p0, p1, q0, q1, a, b, rfl, hab, hbb, RA0, RA1, RB0, RB1, hz4⟩; have ra0 := Own.rd _ RA0; clear RA0; obtain ⟨o_0a, c_0a, rfl, _⟩ := ra0.shape; have ra1 := Own.rd _ RA1; clear RA1; obtain ⟨o_1a, c_1a, rfl, _⟩ := ra1.shape; have rb0 := Own.rd _ RB0; clear RB0; obtain ⟨o_0b, c_0b, rfl, _⟩ := rb0.shape; have rb1 := Own.rd _ RB1; clear RB1; obtain ⟨o_1b, c_1b, rfl, _⟩ := rb1.shape; have hx3 := ext2 w4 (.cells #[.int .i64 a.code, .int .i64 a.eg, .int .i64 a.pkt.kind, .int .i64 a.pkt.src, .int .i64 a.pkt.dst, .slice o_0a a.pkt.path.parts.length c_0a, .int .i64 a.pkt.pi, .int .i64 a.pkt.hi, .int .i64 a.pkt.beta, .int .i64 a.pkt.rid, .int .i64 a.pkt.seq, .slice o_1a a.pkt.pay.length c_1a] 62) (.cells #[.int .i64 b.code, .int .i64 b.eg, .int .i64 b.pkt.kind, .int .i64 b.pkt.src, .int .i64 b.pkt.dst, .slice o_0b b.pkt.path.parts.length c_0b, .int .i64 b.pkt.pi, .int .i64 b.pkt.hi, .int .i64 b.pkt.beta, .int .i64 b.pkt.rid, .int .i64 b.pkt.seq, .slice o_1b b.pkt.pay.length c_1b] 62)
 have HB3 := Lib.hid (al2 w4 (.cells #[.int .i64 a.code, .int .i64 a.eg, .int .i64 a.pkt.kind, .int .i64 a.pkt.src, .int .i64 a.pkt.dst, .slice o_0a a.pkt.path.parts.length c_0a, .int .i64 a.pkt.pi, .int .i64 a.pkt.hi, .int .i64 a.pkt.beta, .int .i64 a.pkt.rid, .int .i64 a.pkt.seq, .slice o_1a a.pkt.pay.length c_1a] 62) (.cells #[.int .i64 b.code, .int .i64 b.eg, .int .i64 b.pkt.kind, .int .i64 b.pkt.src, .int .i64 b.pkt.dst, .slice o_0b b.pkt.path.parts.length c_0b, .int .i64 b.pkt.pi, .int .i64 b.pkt.hi, .int .i64 b.pkt.beta, .int .i64 b.pkt.rid, .int .i64 b.pkt.seq, .slice o_1b b.pkt.pay.length c_1b] 62))
 obtain ⟨ve, hve⟩ : ∃ c, c = vdEq a b := ⟨_, rfl⟩
 have hn1 : (ve != ve) = false := by simp
 have HVE := Lib.hid hve; clear hve
 obtain ⟨nm, hnm⟩ : ∃ c, c = strOfNums (verdictB n) := ⟨_, rfl⟩
 have HNM := Lib.hid hnm; clear hnm
 try clear cf6
 try clear cf7
 try clear cf8
 have cf9 := blk2 (Ext.block ((((hz2.t hx2).t hz3).t hz4).t hx3) HB1.out.1); have cf10 := blk10 (Ext.block ((((hz2.t hx2).t hz3).t hz4).t hx3) HB1.out.2); have cf11 := blk12 (Ext.block ((hz3.t hz4).t hx3) HB2.out); have cf12 := blk12 HB3.out.1; have cf13 := blk12 HB3.out.2
 go_wp2_with fail
 refine planStep (.blk [0, 1, 2, 3, 4, 5, 6] (.one 7 (.one 8 (.blk [9, 10, 11, 13] (.one 12 (.one 14 (.blk [15, 16, 17, 18, 19, 21, 22] (.one 20 (.one 23 (.blk [24, 25] .done)))))))))) [] (by kernel_rfl) (by as_aux_lemma => kernel_rfl) ?_
 try clear cf9
 try clear cf10
 try clear cf11
 try clear cf12
 try clear cf13
 have cf14 := blk2 (Ext.block (((((hz2.t hx2).t hz3).t hz4).t hx3).t ((Ext.refl _).drew)) HB1.out.1); have cf15 := blk10 (Ext.block (((((hz2.t hx2).t hz3).t hz4).t hx3).t ((Ext.refl _).drew)) HB1.out.2); have cf16 := blk12 (Ext.block (((hz3.t hz4).t hx3).t ((Ext.refl _).drew)) HB2.out); have cf17 := blk12 (Ext.block ((Ext.refl _).drew) HB3.out.1); have cf18 := blk12 (Ext.block ((Ext.refl _).drew) HB3.out.2); refine blkStep (fun K HK => ?_); simp only [PK]
 go_wp2_with fail
 refine HK.out _ _ ?_; clear HK K; refine oneStep (fun K HK => ?_); simp only [PK]
 go_wp2_with fail
 refine (s_Forward t _ _ r now dead inn x _ _ _ (rA.ext ((((((hx1.t hz2).t hx2).t hz3).t hz4).t hx3).t ((Ext.refl _).drew))) (rL.ext ((((((hx1.t hz2).t hx2).t hz3).t hz4).t hx3).t ((Ext.refl _).drew))) (r0.ext ((((((hx1.t hz2).t hx2).t hz3).t hz4).t hx3).t ((Ext.refl _).drew))) (r1.ext ((((((hx1.t hz2).t hx2).t hz3).t hz4).t hx3).t ((Ext.refl _).drew))) (by omega)).mono ?_; rintro e w5 ⟨a0, a1, rfl, OX, hz5⟩; rw [← HZ.out] at OX; rw [← HCD.out, ← HEG.out, ← HZ.out]; have rw0 := Pkt.own_rd0 OX; have rw1 := Pkt.own_rd1 OX; clear OX; obtain ⟨o_0w, c_0w, rfl, _⟩ := rw0.shape; obtain ⟨o_1w, c_1w, rfl, _⟩ := rw1.shape
 try clear cf14
 try clear cf15
 try clear cf16
 try clear cf17
 try clear cf18
 have cf19 := blk2 (Ext.block ((((((hz2.t hx2).t hz3).t hz4).t hx3).t ((Ext.refl _).drew)).t hz5) HB1.out.1); have cf20 := blk10 (Ext.block ((((((hz2.t hx2).t hz3).t hz4).t hx3).t ((Ext.refl _).drew)).t hz5) HB1.out.2); have cf21 := blk12 (Ext.block ((((hz3.t hz4).t hx3).t ((Ext.refl _).drew)).t hz5) HB2.out); have cf22 := blk12 (Ext.block (((Ext.refl _).drew).t hz5) HB3.out.1); have cf23 := blk12 (Ext.block (((Ext.refl _).drew).t hz5) HB3.out.2)
 go_wp2_with fail
 refine HK.out _ _ hz5 ?_; clear HK K; refine oneStep (fun K HK => ?_); simp only [PK]
 go_wp2_with fail
 refine (l_sameVerdict (⟨cd, eg, z⟩ : Vd) (⟨cd, eg, z⟩ : Vd) _ _ _ _ _ (rz0.ext (((((hx2.t hz3).t hz4).t hx3).t ((Ext.refl _).drew)).t hz5)) (rz1.ext (((((hx2.t hz3).t hz4).t hx3).t ((Ext.refl _).drew)).t hz5)) (rw0.ext (Ext.refl _)) (rw1.ext (Ext.refl _))).mono ?_; rintro e w6 ⟨rfl, hz6⟩; rw [vdEq_self]
 try clear cf19
 try clear cf20
 try clear cf21
 try clear cf22
 try clear cf23
 have cf24 := blk2 (Ext.block (((((((hz2.t hx2).t hz3).t hz4).t hx3).t ((Ext.refl _).drew)).t hz5).t hz6) HB1.out.1); have cf25 := blk10 (Ext.block (((((((hz2.t hx2).t hz3).t hz4).t hx3).t ((Ext.refl _).drew)).t hz5).t hz6) HB1.out.2); have cf26 := blk12 (Ext.block (((((hz3.t hz4).t hx3).t ((Ext.refl _).drew)).t hz5).t hz6) HB2.out); have cf27 := blk12 (Ext.block ((((Ext.refl _).drew).t hz5).t hz6) HB3.out.1); have cf28 := blk12 (Ext.block ((((Ext.refl _).drew).t hz5).t hz6) HB3.out.2)
 go_wp2_with fail
 refine HK.out _ _ hz6 ?_; clear HK K; refine blkStep (fun K HK => ?_); simp only [PK]
 go_wp2_with fail
 refine HK.out _ _ ?_; clear HK K; refine oneStep (fun K HK => ?_); simp only [PK]
 go_wp2_with fail
 refine (i_VerdictName n _).mono ?_; rintro e w7 ⟨rfl, hz7⟩; rw [← HNM.out]
 try clear cf24
 try clear cf25
 try clear cf26
 try clear cf27
 try clear cf28
 have cf29 := blk2 (Ext.block ((((((((hz2.t hx2).t hz3).t hz4).t hx3).t ((Ext.refl _).drew)).t hz5).t hz6).t hz7) HB1.out.1); have cf30 := blk10 (Ext.block ((((((((hz2.t hx2).t hz3).t hz4).t hx3).t ((Ext.refl _).drew)).t hz5).t hz6).t hz7) HB1.out.2); have cf31 := blk12 (Ext.block ((((((hz3.t hz4).t hx3).t ((Ext.refl _).drew)).t hz5).t hz6).t hz7) HB2.out); have cf32 := blk12 (Ext.block (((((Ext.refl _).drew).t hz5).t hz6).t hz7) HB3.out.1); have cf33 := blk12 (Ext.block (((((Ext.refl _).drew).t hz5).t hz6).t hz7) HB3.out.2)
 go_wp2_with fail
 refine HK.out _ _ hz7 ?_; clear HK K; refine oneStep (fun K HK => ?_); simp only [PK]
 go_wp2_with fail
 refine (s_VerdictName n _).mono ?_; rintro e w8 ⟨rfl, hz8⟩; rw [← HNM.out]
 try clear cf29
 try clear cf30
 try clear cf31
 try clear cf32
 try clear cf33
 have cf34 := blk2 (Ext.block (((((((((hz2.t hx2).t hz3).t hz4).t hx3).t ((Ext.refl _).drew)).t hz5).t hz6).t hz7).t hz8) HB1.out.1); have cf35 := blk10 (Ext.block (((((((((hz2.t hx2).t hz3).t hz4).t hx3).t ((Ext.refl _).drew)).t hz5).t hz6).t hz7).t hz8) HB1.out.2); have cf36 := blk12 (Ext.block (((((((hz3.t hz4).t hx3).t ((Ext.refl _).drew)).t hz5).t hz6).t hz7).t hz8) HB2.out); have cf37 := blk12 (Ext.block ((((((Ext.refl _).drew).t hz5).t hz6).t hz7).t hz8) HB3.out.1); have cf38 := blk12 (Ext.block ((((((Ext.refl _).drew).t hz5).t hz6).t hz7).t hz8) HB3.out.2)
 go_wp2_with fail
 refine HK.out _ _ hz8 ?_; clear HK K; refine blkStep (fun K HK => ?_); simp only [PK]
 go_wp2_with fail
 refine HK.out _ _ ?_; clear HK K; refine oneStep (fun K HK => ?_); simp only [PK]
 go_wp2_with fail
 refine (i_EqualVerdicts a b _ _ _ _ _ (ra0.ext (((((hx3.t ((Ext.refl _).drew)).t hz5).t hz6).t hz7).t hz8)) (ra1.ext (((((hx3.t ((Ext.refl _).drew)).t hz5).t hz6).t hz7).t hz8)) (rb0.ext (((((hx3.t ((Ext.refl _).drew)).t hz5).t hz6).t hz7).t hz8)) (rb1.ext (((((hx3.t ((Ext.refl _).drew)).t hz5).t hz6).t hz7).t hz8)) hab.u8 hbb.u8).mono ?_; rintro e w9 ⟨rfl, hz9⟩; rw [← HVE.out]
 try clear cf34
 try clear cf35
 try clear cf36
 try clear cf37
 try clear cf38
 have cf39 := blk2 (Ext.block ((((((((((hz2.t hx2).t hz3).t hz4).t hx3).t ((Ext.refl _).drew)).t hz5).t hz6).t hz7).t hz8).t hz9) HB1.out.1); have cf40 := blk10 (Ext.block ((((((((((hz2.t hx2).t hz3).t hz4).t hx3).t ((Ext.refl _).drew)).t hz5).t hz6).t hz7).t hz8).t hz9) HB1.out.2); have cf41 := blk12 (Ext.block ((((((((hz3.t hz4).t hx3).t ((Ext.refl _).drew)).t hz5).t hz6).t hz7).t hz8).t hz9) HB2.out); have cf42 := blk12 (Ext.block (((((((Ext.refl _).drew).t hz5).t hz6).t hz7).t hz8).t hz9) HB3.out.1); have cf43 := blk12 (Ext.block (((((((Ext.refl _).drew).t hz5).t hz6).t hz7).t hz8).t hz9) HB3.out.2)
 go_wp2_with fail
 refine HK.out _ _ hz9 ?_; clear HK K; refine oneStep (fun K HK => ?_); simp only [PK]
 go_wp2_with fail
 refine (l_sameVerdict a b _ _ _ _ _ (ra0.ext ((((((hx3.t ((Ext.refl _).drew)).t hz5).t hz6).t hz7).t hz8).t hz9)) (ra1.ext ((((((hx3.t ((Ext.refl _).drew)).t hz5).t hz6).t hz7).t hz8).t hz9)) (rb0.ext ((((((hx3.t ((Ext.refl _).drew)).t hz5).t hz6).t hz7).t hz8).t hz9)) (rb1.ext ((((((hx3.t ((Ext.refl _).drew)).t hz5).t hz6).t hz7).t hz8).t hz9))).mono ?_; rintro e w10 ⟨rfl, hz10⟩; rw [← HVE.out]
 try clear cf39
 try clear cf40
 try clear cf41
 try clear cf42
 try clear cf43
 have cf44 := blk2 (Ext.block (((((((((((hz2.t hx2).t hz3).t hz4).t hx3).t ((Ext.refl _).drew)).t hz5).t hz6).t hz7).t hz8).t hz9).t hz10) HB1.out.1); have cf45 := blk10 (Ext.block (((((((((((hz2.t hx2).t hz3).t hz4).t hx3).t ((Ext.refl _).drew)).t hz5).t hz6).t hz7).t hz8).t hz9).t hz10) HB1.out.2); have cf46 := blk12 (Ext.block (((((((((hz3.t hz4).t hx3).t ((Ext.refl _).drew)).t hz5).t hz6).t hz7).t hz8).t hz9).t hz10) HB2.out); have cf47 := blk12 (Ext.block ((((((((Ext.refl _).drew).t hz5).t hz6).t hz7).t hz8).t hz9).t hz10) HB3.out.1); have cf48 := blk12 (Ext.block ((((((((Ext.refl _).drew).t hz5).t hz6).t hz7).t hz8).t hz9).t hz10) HB3.out.2)
 go_wp2_with fail
 refine HK.out _ _ hz10 ?_; clear HK K; refine blkStep (fun K HK => ?_); simp only [PK]
 go_wp2_with fail
 refine HK.out _ _ ?_; clear HK K; refine doneStep (by kernel_rfl) ?_; clear hn1
 by_cases hc1 : 1 < cd
 ·
  as_aux_lemma =>
   have F := fw_no t r now dead inn x (by rw [← HCD.out]; exact hc1); rw [← HEG.out, ← HZ.out] at F; have heg : (eg == 0) = true := by rw [beq_iff_eq]; exact F.1
   have hzx := F.2; clear F HCD HEG HZ; subst hzx
   try clear cf44
   try clear cf45
   try clear cf46
   try clear cf47
   try clear cf48
   have cf49 := blk2 (Ext.block (((((((((((hz2.t hx2).t hz3).t hz4).t hx3).t ((Ext.refl _).drew)).t hz5).t hz6).t hz7).t hz8).t hz9).t hz10) HB1.out.1); have cf50 := blk10 (Ext.block (((((((((((hz2.t hx2).t hz3).t hz4).t hx3).t ((Ext.refl _).drew)).t hz5).t hz6).t hz7).t hz8).t hz9).t hz10) HB1.out.2); have cf51 := blk12 (Ext.block (((((((((hz3.t hz4).t hx3).t ((Ext.refl _).drew)).t hz5).t hz6).t hz7).t hz8).t hz9).t hz10) HB2.out)
   go_wp2_with fail
   refine (l_samePacketT z _ _ _ _ _ (rz0.ext ((((((((((hx2.t hz3).t hz4).t hx3).t ((Ext.refl _).drew)).t hz5).t hz6).t hz7).t hz8).t hz9).t hz10)) (rz1.ext ((((((((((hx2.t hz3).t hz4).t hx3).t ((Ext.refl _).drew)).t hz5).t hz6).t hz7).t hz8).t hz9).t hz10)) (r0.ext ((((((((((((hx1.t hz2).t hx2).t hz3).t hz4).t hx3).t ((Ext.refl _).drew)).t hz5).t hz6).t hz7).t hz8).t hz9).t hz10)) (r1.ext ((((((((((((hx1.t hz2).t hx2).t hz3).t hz4).t hx3).t ((Ext.refl _).drew)).t hz5).t hz6).t hz7).t hz8).t hz9).t hz10)) (by omega)).mono ?_; rintro e w11 ⟨rfl, hz11⟩
   try clear cf49
   try clear cf50
   try clear cf51
   have cf52 := blk2 (Ext.block ((((((((((((hz2.t hx2).t hz3).t hz4).t hx3).t ((Ext.refl _).drew)).t hz5).t hz6).t hz7).t hz8).t hz9).t hz10).t hz11) HB1.out.1); have cf53 := blk10 (Ext.block ((((((((((((hz2.t hx2).t hz3).t hz4).t hx3).t ((Ext.refl _).drew)).t hz5).t hz6).t hz7).t hz8).t hz9).t hz10).t hz11) HB1.out.2); have cf54 := blk12 (Ext.block ((((((((((hz3.t hz4).t hx3).t ((Ext.refl _).drew)).t hz5).t hz6).t hz7).t hz8).t hz9).t hz10).t hz11) HB2.out)
   go_wp2_with fail
   go_ret
   exact ⟨rfl, ((((((((((((((hz1.t hx1).t hz2).t hx2).t hz3).t hz4).t hx3).t ((Ext.refl _).drew)).t hz5).t hz6).t hz7).t hz8).t hz9).t hz10).t hz11)⟩
 ·
  as_aux_lemma =>
   have F := forwards t r now dead inn x (by rw [← HCD.out]; exact hc1); rw [← HCD.out, ← HEG.out, ← HZ.out] at F; obtain ⟨b1, hcur, hasn, hok, hci, hsim, f1, f0⟩ := F; have HCUR := Lib.hid hcur; have HOK := Lib.hid hok; have HCI := Lib.hid hci; have HSIM := Lib.hid hsim; have HF1 := Lib.hid f1; have HF0 := Lib.hid f0; clear hcur hok hci hsim f1 f0; obtain ⟨⟨p0, p1, p2⟩, q0, q1, q2⟩ := hasHop_parts b1; clear b1; have hcp := curPart_at p2; obtain ⟨b, off, oh, ch, rfl, hc, hr'⟩ := Part.at (r0.ext ((((((((((((hx1.t hz2).t hx2).t hz3).t hz4).t hx3).t ((Ext.refl _).drew)).t hz5).t hz6).t hz7).t hz8).t hz9).t hz10)) x.pi.toNat p2; rw [← hcp] at hc hr'; clear hcp; have hch := curHop_at q2; obtain ⟨b3, off3, rfl, ht⟩ := Hop.at hr' x.hi.toNat q2; rw [← hch] at ht; clear hch hr'
   obtain ⟨cp, hcp⟩ : ∃ c, c = curPart x := ⟨_, rfl⟩
   obtain ⟨hd, hhd⟩ : ∃ h, h = curHop x := ⟨_, rfl⟩
   rw [← hcp] at hc q1 q2; rw [← hhd] at ht hasn; have hha : (hd.asn != r) = false := by rw [hasn]; simp
   clear hcp hhd hasn
   try clear cf44
   try clear cf45
   try clear cf46
   try clear cf47
   try clear cf48
   have cf55 := blk2 (Ext.block (((((((((((hz2.t hx2).t hz3).t hz4).t hx3).t ((Ext.refl _).drew)).t hz5).t hz6).t hz7).t hz8).t hz9).t hz10) HB1.out.1); have cf56 := blk10 (Ext.block (((((((((((hz2.t hx2).t hz3).t hz4).t hx3).t ((Ext.refl _).drew)).t hz5).t hz6).t hz7).t hz8).t hz9).t hz10) HB1.out.2); have cf57 := blk12 (Ext.block (((((((((hz3.t hz4).t hx3).t ((Ext.refl _).drew)).t hz5).t hz6).t hz7).t hz8).t hz9).t hz10) HB2.out)
   go_upto_region 11 with (fail)
   refine planStep (.blk [0, 1, 2, 3, 4, 5, 6, 7, 8, 9, 10, 11] (.one 12 (.one 13 .done))) [13] (by kernel_rfl) (by kernel_rfl) ?_; have hxd := (Ext.refl w10).drew
   obtain ⟨wd, hnw⟩ : ∃ wn, wn = w10.drew := ⟨_, rfl⟩
   rw [← hnw] at hxd ⊢
   clear hnw
   try clear cf55
   try clear cf56
   try clear cf57
   have cf58 := blk2 (Ext.block ((((((((((((hz2.t hx2).t hz3).t hz4).t hx3).t ((Ext.refl _).drew)).t hz5).t hz6).t hz7).t hz8).t hz9).t hz10).t hxd) HB1.out.1); have cf59 := blk10 (Ext.block ((((((((((((hz2.t hx2).t hz3).t hz4).t hx3).t ((Ext.refl _).drew)).t hz5).t hz6).t hz7).t hz8).t hz9).t hz10).t hxd) HB1.out.2); have cf60 := blk12 (Ext.block ((((((((((hz3.t hz4).t hx3).t ((Ext.refl _).drew)).t hz5).t hz6).t hz7).t hz8).t hz9).t hz10).t hxd) HB2.out); have cf61 := Part.at_ext hxd hc; have cf62 := hopc_ext hxd ht; refine blkStep (fun K HK => ?_); simp only [PK]
   go_wp2_with fail
   refine HK.out _ _ ?_; clear HK K; refine oneStep (fun K HK => ?_); simp only [PK]
   go_wp2_with fail
   refine HK.out _ _ ((Ext.refl _).alloc _) ?_; clear HK K; refine badStep (by kernel_rfl) (fun K HK => ?_); simp only [PK]
   go_wp2_with fail
   refine HK.out _ _ ?_; clear HK K; have hxv : Ext wd (wd.alloc (.cells #[.int .i64 hd.asn, .int .i64 hd.ing, .int .i64 hd.eg, .int .i64 hd.exp, .int .i64 hd.mac] 71)) := (Ext.refl wd).alloc _; have HBV := Lib.hid (blk_new wd (.cells #[.int .i64 hd.asn, .int .i64 hd.ing, .int .i64 hd.eg, .int .i64 hd.exp, .int .i64 hd.mac] 71)); generalize wd.alloc (.cells #[.int .i64 hd.asn, .int .i64 hd.ing, .int .i64 hd.eg, .int .i64 hd.exp, .int .i64 hd.mac] 71) = wv at hxv HBV ⊢
   refine doneStep (by kernel_rfl) ?_
   try clear hc ht
   try clear cf58
   try clear cf59
   try clear cf60
   try clear cf61
   try clear cf62
   have cf63 := blk2 (Ext.block (((((((((((((hz2.t hx2).t hz3).t hz4).t hx3).t ((Ext.refl _).drew)).t hz5).t hz6).t hz7).t hz8).t hz9).t hz10).t hxd).t hxv) HB1.out.1); have cf64 := blk10 (Ext.block (((((((((((((hz2.t hx2).t hz3).t hz4).t hx3).t ((Ext.refl _).drew)).t hz5).t hz6).t hz7).t hz8).t hz9).t hz10).t hxd).t hxv) HB1.out.2); have cf65 := blk12 (Ext.block (((((((((((hz3.t hz4).t hx3).t ((Ext.refl _).drew)).t hz5).t hz6).t hz7).t hz8).t hz9).t hz10).t hxd).t hxv) HB2.out); have cf66 := blk5 HBV.out
   go_wp2_with fail
   refine (i_VerifyCurrentHop t _ _ x _ _ _ (rA.ext ((((((((((((((hx1.t hz2).t hx2).t hz3).t hz4).t hx3).t ((Ext.refl _).drew)).t hz5).t hz6).t hz7).t hz8).t hz9).t hz10).t hxd).t hxv)) (rL.ext ((((((((((((((hx1.t hz2).t hx2).t hz3).t hz4).t hx3).t ((Ext.refl _).drew)).t hz5).t hz6).t hz7).t hz8).t hz9).t hz10).t hxd).t hxv)) (r0.ext ((((((((((((((hx1.t hz2).t hx2).t hz3).t hz4).t hx3).t ((Ext.refl _).drew)).t hz5).t hz6).t hz7).t hz8).t hz9).t hz10).t hxd).t hxv)) (r1.ext ((((((((((((((hx1.t hz2).t hx2).t hz3).t hz4).t hx3).t ((Ext.refl _).drew)).t hz5).t hz6).t hz7).t hz8).t hz9).t hz10).t hxd).t hxv)) (by omega)).mono ?_; rintro e w12 ⟨a0, a1, rfl, OX, hz12⟩; rw [HOK.out]
   obtain ⟨m, hm⟩ : ∃ m, m = verCur t x := ⟨_, rfl⟩
   rw [← hm] at OX ⊢
   clear hm; have rm0 := Pkt.own_rd0 OX; have rm1 := Pkt.own_rd1 OX; clear OX; obtain ⟨o_0m, c_0m, rfl, _⟩ := rm0.shape; obtain ⟨o_1m, c_1m, rfl, _⟩ := rm1.shape; have hrr : (r != r) = false := by simp
   have hx5 : Ext w12 (w12.alloc (.cells #[.int .i64 m.kind, .int .i64 m.src, .int .i64 m.dst, .slice o_0m m.path.parts.length c_0m, .int .i64 m.pi, .int .i64 m.hi, .int .i64 m.beta, .int .i64 m.rid, .int .i64 m.seq, .slice o_1m m.pay.length c_1m] 58)) := (Ext.refl _).alloc _; have HB5 := Lib.hid (blk_new w12 (.cells #[.int .i64 m.kind, .int .i64 m.src, .int .i64 m.dst, .slice o_0m m.path.parts.length c_0m, .int .i64 m.pi, .int .i64 m.hi, .int .i64 m.beta, .int .i64 m.rid, .int .i64 m.seq, .slice o_1m m.pay.length c_1m] 58))
   try clear cf63
   try clear cf64
   try clear cf65
   try clear cf66
   have cf67 := blk2 (Ext.block (((((((((((((((hz2.t hx2).t hz3).t hz4).t hx3).t ((Ext.refl _).drew)).t hz5).t hz6).t hz7).t hz8).t hz9).t hz10).t hxd).t hxv).t hz12).t hx5) HB1.out.1); have cf68 := blk10 (Ext.block (((((((((((((((hz2.t hx2).t hz3).t hz4).t hx3).t ((Ext.refl _).drew)).t hz5).t hz6).t hz7).t hz8).t hz9).t hz10).t hxd).t hxv).t hz12).t hx5) HB1.out.2); have cf69 := blk12 (Ext.block (((((((((((((hz3.t hz4).t hx3).t ((Ext.refl _).drew)).t hz5).t hz6).t hz7).t hz8).t hz9).t hz10).t hxd).t hxv).t hz12).t hx5) HB2.out); have cf70 := blk5 (Ext.block (hz12.t hx5) HBV.out); have cf71 := blk10 HB5.out
   go_wp2_with fail
   refine (i_CurrentAS x _ _ _ (r0.ext ((((((((((((((((hx1.t hz2).t hx2).t hz3).t hz4).t hx3).t ((Ext.refl _).drew)).t hz5).t hz6).t hz7).t hz8).t hz9).t hz10).t hxd).t hxv).t hz12).t hx5))).mono ?_; rintro e w13 ⟨rfl, hz13⟩; rw [HCUR.out]
   try clear cf67
   try clear cf68
   try clear cf69
   try clear cf70
   try clear cf71
   have cf72 := blk2 (Ext.block ((((((((((((((((hz2.t hx2).t hz3).t hz4).t hx3).t ((Ext.refl _).drew)).t hz5).t hz6).t hz7).t hz8).t hz9).t hz10).t hxd).t hxv).t hz12).t hx5).t hz13) HB1.out.1); have cf73 := blk10 (Ext.block ((((((((((((((((hz2.t hx2).t hz3).t hz4).t hx3).t ((Ext.refl _).drew)).t hz5).t hz6).t hz7).t hz8).t hz9).t hz10).t hxd).t hxv).t hz12).t hx5).t hz13) HB1.out.2); have cf74 := blk12 (Ext.block ((((((((((((((hz3.t hz4).t hx3).t ((Ext.refl _).drew)).t hz5).t hz6).t hz7).t hz8).t hz9).t hz10).t hxd).t hxv).t hz12).t hx5).t hz13) HB2.out); have cf75 := blk5 (Ext.block ((hz12.t hx5).t hz13) HBV.out); have cf76 := blk10 (Ext.block hz13 HB5.out)
   go_wp2_with fail
   refine (i_CurrentHopValid x _ _ now _ (r0.ext (((((((((((((((((hx1.t hz2).t hx2).t hz3).t hz4).t hx3).t ((Ext.refl _).drew)).t hz5).t hz6).t hz7).t hz8).t hz9).t hz10).t hxd).t hxv).t hz12).t hx5).t hz13))).mono ?_; rintro e w14 ⟨rfl, hz14⟩; rw [HCI.out]
   try clear cf72
   try clear cf73
   try clear cf74
   try clear cf75
   try clear cf76
   have cf77 := blk2 (Ext.block (((((((((((((((((hz2.t hx2).t hz3).t hz4).t hx3).t ((Ext.refl _).drew)).t hz5).t hz6).t hz7).t hz8).t hz9).t hz10).t hxd).t hxv).t hz12).t hx5).t hz13).t hz14) HB1.out.1); have cf78 := blk10 (Ext.block (((((((((((((((((hz2.t hx2).t hz3).t hz4).t hx3).t ((Ext.refl _).drew)).t hz5).t hz6).t hz7).t hz8).t hz9).t hz10).t hxd).t hxv).t hz12).t hx5).t hz13).t hz14) HB1.out.2); have cf79 := blk12 (Ext.block (((((((((((((((hz3.t hz4).t hx3).t ((Ext.refl _).drew)).t hz5).t hz6).t hz7).t hz8).t hz9).t hz10).t hxd).t hxv).t hz12).t hx5).t hz13).t hz14) HB2.out); have cf80 := blk5 (Ext.block (((hz12.t hx5).t hz13).t hz14) HBV.out); have cf81 := blk10 (Ext.block (hz13.t hz14) HB5.out)
   go_wp2_with fail
   refine (i_SimplePath t _ _ x.path _ _ (rA.ext ((((((((((((((((((hx1.t hz2).t hx2).t hz3).t hz4).t hx3).t ((Ext.refl _).drew)).t hz5).t hz6).t hz7).t hz8).t hz9).t hz10).t hxd).t hxv).t hz12).t hx5).t hz13).t hz14)) (rL.ext ((((((((((((((((((hx1.t hz2).t hx2).t hz3).t hz4).t hx3).t ((Ext.refl _).drew)).t hz5).t hz6).t hz7).t hz8).t hz9).t hz10).t hxd).t hxv).t hz12).t hx5).t hz13).t hz14)) (r0.ext ((((((((((((((((((hx1.t hz2).t hx2).t hz3).t hz4).t hx3).t ((Ext.refl _).drew)).t hz5).t hz6).t hz7).t hz8).t hz9).t hz10).t hxd).t hxv).t hz12).t hx5).t hz13).t hz14)) (by unfold Pkt.size at hxs; omega)).mono ?_; rintro e w15 ⟨rfl, hz15⟩; rw [HSIM.out]; clear hrr hha
   cases hc2 : (cd == 1)
   ·
    have F := HF0.out (fun e => by rw [e] at hc2; cases hc2); obtain ⟨g1, g2, g3, g4, g5⟩ := F; have g3b : (eg != inn) = true := by rw [bne_iff_ne]; exact g3
    have G2 := Lib.hid g2; have G4 := Lib.hid g4; have G5 := Lib.hid g5; clear g2 g3 g4 g5 HF0 HF1
    try clear cf77
    try clear cf78
    try clear cf79
    try clear cf80
    try clear cf81
    have cf82 := blk2 (Ext.block ((((((((((((((((((hz2.t hx2).t hz3).t hz4).t hx3).t ((Ext.refl _).drew)).t hz5).t hz6).t hz7).t hz8).t hz9).t hz10).t hxd).t hxv).t hz12).t hx5).t hz13).t hz14).t hz15) HB1.out.1); have cf83 := blk10 (Ext.block ((((((((((((((((((hz2.t hx2).t hz3).t hz4).t hx3).t ((Ext.refl _).drew)).t hz5).t hz6).t hz7).t hz8).t hz9).t hz10).t hxd).t hxv).t hz12).t hx5).t hz13).t hz14).t hz15) HB1.out.2); have cf84 := blk12 (Ext.block ((((((((((((((((hz3.t hz4).t hx3).t ((Ext.refl _).drew)).t hz5).t hz6).t hz7).t hz8).t hz9).t hz10).t hxd).t hxv).t hz12).t hx5).t hz13).t hz14).t hz15) HB2.out); have cf85 := blk5 (Ext.block ((((hz12.t hx5).t hz13).t hz14).t hz15) HBV.out); have cf86 := blk10 (Ext.block ((hz13.t hz14).t hz15) HB5.out)
    go_wp2_with fail
    refine (i_RemoteEnd t _ _ r eg _ (rL.ext (((((((((((((((((((hx1.t hz2).t hx2).t hz3).t hz4).t hx3).t ((Ext.refl _).drew)).t hz5).t hz6).t hz7).t hz8).t hz9).t hz10).t hxd).t hxv).t hz12).t hx5).t hz13).t hz14).t hz15))).mono ?_; rintro e w16 ⟨rfl, hz16⟩
    obtain ⟨q, hq⟩ : ∃ q, q = remEnd t r eg := ⟨_, rfl⟩
    rw [← hq]; have G4b : Hid (curAs z = q.1) := Lib.hid (by rw [hq]; exact G4.out); clear hq G4
    try clear cf82
    try clear cf83
    try clear cf84
    try clear cf85
    try clear cf86
    have cf87 := blk2 (Ext.block (((((((((((((((((((hz2.t hx2).t hz3).t hz4).t hx3).t ((Ext.refl _).drew)).t hz5).t hz6).t hz7).t hz8).t hz9).t hz10).t hxd).t hxv).t hz12).t hx5).t hz13).t hz14).t hz15).t hz16) HB1.out.1); have cf88 := blk10 (Ext.block (((((((((((((((((((hz2.t hx2).t hz3).t hz4).t hx3).t ((Ext.refl _).drew)).t hz5).t hz6).t hz7).t hz8).t hz9).t hz10).t hxd).t hxv).t hz12).t hx5).t hz13).t hz14).t hz15).t hz16) HB1.out.2); have cf89 := blk12 (Ext.block (((((((((((((((((hz3.t hz4).t hx3).t ((Ext.refl _).drew)).t hz5).t hz6).t hz7).t hz8).t hz9).t hz10).t hxd).t hxv).t hz12).t hx5).t hz13).t hz14).t hz15).t hz16) HB2.out); have cf90 := blk5 (Ext.block (((((hz12.t hx5).t hz13).t hz14).t hz15).t hz16) HBV.out); have cf91 := blk10 (Ext.block (((hz13.t hz14).t hz15).t hz16) HB5.out)
    go_wp2_with fail
    refine (i_Contains dead eg _).mono ?_; rintro e _ ⟨rfl, rfl⟩; rw [G2.out]
    go_wp2_with fail
    refine (i_CurrentAS z _ _ _ (rz0.ext ((((((((((((((((((hx2.t hz3).t hz4).t hx3).t ((Ext.refl _).drew)).t hz5).t hz6).t hz7).t hz8).t hz9).t hz10).t hxd).t hxv).t hz12).t hx5).t hz13).t hz14).t hz15).t hz16))).mono ?_; rintro e w18 ⟨rfl, hz18⟩; rw [G4b.out]
    try clear cf87
    try clear cf88
    try clear cf89
    try clear cf90
    try clear cf91
    have cf92 := blk2 (Ext.block ((((((((((((((((((((hz2.t hx2).t hz3).t hz4).t hx3).t ((Ext.refl _).drew)).t hz5).t hz6).t hz7).t hz8).t hz9).t hz10).t hxd).t hxv).t hz12).t hx5).t hz13).t hz14).t hz15).t hz16).t hz18) HB1.out.1); have cf93 := blk10 (Ext.block ((((((((((((((((((((hz2.t hx2).t hz3).t hz4).t hx3).t ((Ext.refl _).drew)).t hz5).t hz6).t hz7).t hz8).t hz9).t hz10).t hxd).t hxv).t hz12).t hx5).t hz13).t hz14).t hz15).t hz16).t hz18) HB1.out.2); have cf94 := blk12 (Ext.block ((((((((((((((((((hz3.t hz4).t hx3).t ((Ext.refl _).drew)).t hz5).t hz6).t hz7).t hz8).t hz9).t hz10).t hxd).t hxv).t hz12).t hx5).t hz13).t hz14).t hz15).t hz16).t hz18) HB2.out); have cf95 := blk5 (Ext.block ((((((hz12.t hx5).t hz13).t hz14).t hz15).t hz16).t hz18) HBV.out); have cf96 := blk10 (Ext.block ((((hz13.t hz14).t hz15).t hz16).t hz18) HB5.out)
    go_wp2_with fail
    refine (i_StepAllowed t _ _ ⟨r, inn, eg⟩ _ (rL.ext (((((((((((((((((((((hx1.t hz2).t hx2).t hz3).t hz4).t hx3).t ((Ext.refl _).drew)).t hz5).t hz6).t hz7).t hz8).t hz9).t hz10).t hxd).t hxv).t hz12).t hx5).t hz13).t hz14).t hz15).t hz16).t hz18))).mono ?_; rintro e w19 ⟨rfl, hz19⟩; rw [G5.out]
    try clear cf92
    try clear cf93
    try clear cf94
    try clear cf95
    try clear cf96
    have cf97 := blk2 (Ext.block (((((((((((((((((((((hz2.t hx2).t hz3).t hz4).t hx3).t ((Ext.refl _).drew)).t hz5).t hz6).t hz7).t hz8).t hz9).t hz10).t hxd).t hxv).t hz12).t hx5).t hz13).t hz14).t hz15).t hz16).t hz18).t hz19) HB1.out.1); have cf98 := blk10 (Ext.block (((((((((((((((((((((hz2.t hx2).t hz3).t hz4).t hx3).t ((Ext.refl _).drew)).t hz5).t hz6).t hz7).t hz8).t hz9).t hz10).t hxd).t hxv).t hz12).t hx5).t hz13).t hz14).t hz15).t hz16).t hz18).t hz19) HB1.out.2); have cf99 := blk12 (Ext.block (((((((((((((((((((hz3.t hz4).t hx3).t ((Ext.refl _).drew)).t hz5).t hz6).t hz7).t hz8).t hz9).t hz10).t hxd).t hxv).t hz12).t hx5).t hz13).t hz14).t hz15).t hz16).t hz18).t hz19) HB2.out); have cf100 := blk5 (Ext.block (((((((hz12.t hx5).t hz13).t hz14).t hz15).t hz16).t hz18).t hz19) HBV.out); have cf101 := blk10 (Ext.block (((((hz13.t hz14).t hz15).t hz16).t hz18).t hz19) HB5.out)
    go_wp2_with fail
    go_ret
    exact ⟨rfl, (((((((((((((((((((((((hz1.t hx1).t hz2).t hx2).t hz3).t hz4).t hx3).t ((Ext.refl _).drew)).t hz5).t hz6).t hz7).t hz8).t hz9).t hz10).t hxd).t hxv).t hz12).t hx5).t hz13).t hz14).t hz15).t hz16).t hz18).t hz19)⟩
   ·
    have F := HF1.out (beq_iff_eq.1 hc2); obtain ⟨g1, g2, g3⟩ := F; have g1b : (eg == 0) = true := by rw [beq_iff_eq]; exact g1
    have g2b : (x.dst == r) = true := by rw [beq_iff_eq]; exact g2
    have G3 := Lib.hid g3; clear g1 g2 g3 HF0 HF1
    try clear cf77
    try clear cf78
    try clear cf79
    try clear cf80
    try clear cf81
    have cf102 := blk2 (Ext.block ((((((((((((((((((hz2.t hx2).t hz3).t hz4).t hx3).t ((Ext.refl _).drew)).t hz5).t hz6).t hz7).t hz8).t hz9).t hz10).t hxd).t hxv).t hz12).t hx5).t hz13).t hz14).t hz15) HB1.out.1); have cf103 := blk10 (Ext.block ((((((((((((((((((hz2.t hx2).t hz3).t hz4).t hx3).t ((Ext.refl _).drew)).t hz5).t hz6).t hz7).t hz8).t hz9).t hz10).t hxd).t hxv).t hz12).t hx5).t hz13).t hz14).t hz15) HB1.out.2); have cf104 := blk12 (Ext.block ((((((((((((((((hz3.t hz4).t hx3).t ((Ext.refl _).drew)).t hz5).t hz6).t hz7).t hz8).t hz9).t hz10).t hxd).t hxv).t hz12).t hx5).t hz13).t hz14).t hz15) HB2.out); have cf105 := blk5 (Ext.block ((((hz12.t hx5).t hz13).t hz14).t hz15) HBV.out); have cf106 := blk10 (Ext.block ((hz13.t hz14).t hz15) HB5.out)
    go_wp2_with fail
    refine (i_AtLastHop z _ _ _ (rz0.ext (((((((((((((((((hx2.t hz3).t hz4).t hx3).t ((Ext.refl _).drew)).t hz5).t hz6).t hz7).t hz8).t hz9).t hz10).t hxd).t hxv).t hz12).t hx5).t hz13).t hz14).t hz15))).mono ?_; rintro e w20 ⟨rfl, hz20⟩; rw [G3.out]
    try clear cf102
    try clear cf103
    try clear cf104
    try clear cf105
    try clear cf106
    have cf107 := blk2 (Ext.block (((((((((((((((((((hz2.t hx2).t hz3).t hz4).t hx3).t ((Ext.refl _).drew)).t hz5).t hz6).t hz7).t hz8).t hz9).t hz10).t hxd).t hxv).t hz12).t hx5).t hz13).t hz14).t hz15).t hz20) HB1.out.1); have cf108 := blk10 (Ext.block (((((((((((((((((((hz2.t hx2).t hz3).t hz4).t hx3).t ((Ext.refl _).drew)).t hz5).t hz6).t hz7).t hz8).t hz9).t hz10).t hxd).t hxv).t hz12).t hx5).t hz13).t hz14).t hz15).t hz20) HB1.out.2); have cf109 := blk12 (Ext.block (((((((((((((((((hz3.t hz4).t hx3).t ((Ext.refl _).drew)).t hz5).t hz6).t hz7).t hz8).t hz9).t hz10).t hxd).t hxv).t hz12).t hx5).t hz13).t hz14).t hz15).t hz20) HB2.out); have cf110 := blk5 (Ext.block (((((hz12.t hx5).t hz13).t hz14).t hz15).t hz20) HBV.out); have cf111 := blk10 (Ext.block (((hz13.t hz14).t hz15).t hz20) HB5.out)
    go_wp2_with fail
    go_ret
    exact ⟨rfl, (((((((((((((((((((((hz1.t hx1).t hz2).t hx2).t hz3).t hz4).t hx3).t ((Ext.refl _).drew)).t hz5).t hz6).t hz7).t hz8).t hz9).t hz10).t hxd).t hxv).t hz12).t hx5).t hz13).t hz14).t hz15).t hz20)⟩
end
end Go.Proofs.YtcpfmhgfaliemaaGreat
