/- What these laws need: FnHopsPassed: The walk of the law on hops passed: the value after a hop is the chaining value of the next one, in both directions. -/
import Derived.Test.YtikbeiafobnblaaGreatKR24
import Derived.Test.YtikbeiafobnblaaGreatKR63
namespace Go.Proofs.YtikbeiafobnblaaGreat
section
open Go.ChangeShapes Go.WideShapes Go.ChangeAt Go.RowKit Go.Deep
theorem verCur_len (t : Topo) (x : Pkt) : (verCur t x).path.parts.length = x.path.parts.length := by rw [verCur_path]
theorem advance_len (x : Pkt) : (advance x).path.parts.length = x.path.parts.length := by rw [adv_path]
set_option maxRecDepth 100000 in
set_option maxHeartbeats 40000000 in
theorem l_FnHopsPassed (code : List Int) (cv : Value) (w : World) (hr : RdS Rep.byte w cv code) (hu : ∀ x ∈ code, U8 x) :
  Calls Tryz.prog 3 #[cv] w fun e w' => e = .returned (.bool true) ∧ Ext w w' := by
 obtain ⟨co, cc, rfl, _⟩ := hr.shape
 by_cases hbig : 1048576 < code.length
 ·
  have hb1 : decide (1048576 < code.length) = true := by simpa using hbig
  have HB1 := Lib.hid hb1; clear hb1
  go_enter Tryz.func3, Tryz.ntmps3
  go_wp2_with fail
  refine (l_big code _ _ hr).mono ?_
  rintro e _ ⟨rfl, rfl⟩
  rw [HB1.out]
  go_wp2_with fail
  go_ret
  exact ⟨rfl, Ext.refl _⟩
 have hb1 : decide (1048576 < code.length) = false := by simpa using hbig
 have hl : code.length ≤ 1048576 := by omega
 have HB1 := Lib.hid hb1; clear hb1 hbig
 go_enter Tryz.func3, Tryz.ntmps3
 go_wp2_with fail
 refine (l_big code _ _ hr).mono ?_
 rintro e _ ⟨rfl, rfl⟩
 rw [HB1.out]
 go_wp2_with fail
 refine (s_DrawAdvanceHop code _ _ (hr.ext (Ext.refl _)) hu hl).mono ?_
 rintro e w1 ⟨u0, u1, x, rfl, hxb, R0, R1, hz1⟩
 have r0x := Own.rd _ R0
 have r1x := Own.rd _ R1
 clear R0 R1
 obtain ⟨o_0x, c_0x, rfl, _⟩ := r0x.shape
 obtain ⟨o_1x, c_1x, rfl, _⟩ := r1x.shape
 have hxs := hxb.size
 have hxl := hxb.parts
 have hx1 : Ext w1 (w1.alloc (.cells #[.int .i64 x.kind, .int .i64 x.src, .int .i64 x.dst, .slice o_0x x.path.parts.length c_0x, .int .i64 x.pi, .int .i64 x.hi, .int .i64 x.beta, .int .i64 x.rid, .int .i64 x.seq, .slice o_1x x.pay.length c_1x] 28)) := (Ext.refl _).alloc _
 have HB1 := Lib.hid (blk_new w1 (.cells #[.int .i64 x.kind, .int .i64 x.src, .int .i64 x.dst, .slice o_0x x.path.parts.length c_0x, .int .i64 x.pi, .int .i64 x.hi, .int .i64 x.beta, .int .i64 x.rid, .int .i64 x.seq, .slice o_1x x.pay.length c_1x] 28))
 have cf1 := blk10 HB1.out
 go_wp2_with fail
 refine (s_DrawVerifyCurrentHop code _ _ (hr.ext (hz1.trans hx1)) hu hl).mono ?_
 rintro e w2 ⟨v1, v2, u0, u1, t, y, rfl, TK, hyb, RA, RL, R0, R1, hz2⟩
 have r0y := Own.rd _ R0
 have r1y := Own.rd _ R1
 clear R0 R1
 obtain ⟨o_0y, c_0y, rfl, _⟩ := r0y.shape
 obtain ⟨o_1y, c_1y, rfl, _⟩ := r1y.shape
 have hys := hyb.size
 have hyl := hyb.parts
 have rA := Own.rd _ RA
 have rL := Own.rd _ RL
 clear RA RL
 obtain ⟨o1, c1, rfl, _⟩ := rA.shape
 obtain ⟨o2, c2, rfl, _⟩ := rL.shape
 have hx2 := ext2 w2 (.cells #[.slice o1 t.ases.length c1, .slice o2 t.links.length c2] 33) (.cells #[.int .i64 y.kind, .int .i64 y.src, .int .i64 y.dst, .slice o_0y y.path.parts.length c_0y, .int .i64 y.pi, .int .i64 y.hi, .int .i64 y.beta, .int .i64 y.rid, .int .i64 y.seq, .slice o_1y y.pay.length c_1y] 28)
 have HB2 := Lib.hid (al2 w2 (.cells #[.slice o1 t.ases.length c1, .slice o2 t.links.length c2] 33) (.cells #[.int .i64 y.kind, .int .i64 y.src, .int .i64 y.dst, .slice o_0y y.path.parts.length c_0y, .int .i64 y.pi, .int .i64 y.hi, .int .i64 y.beta, .int .i64 y.rid, .int .i64 y.seq, .slice o_1y y.pay.length c_1y] 28))
 try clear cf1
 have cf2 := blk10 (Ext.block (hz2.trans hx2) HB1.out)
 have cf3 := blk2 HB2.out.1
 have cf4 := blk10 HB2.out.2
 go_wp2_with fail
 refine (i_VerifyCurrentHop t _ _ y _ _ _ (rA.ext hx2) (rL.ext hx2) (r0y.ext hx2) (r1y.ext hx2) (by omega)).mono ?_
 rintro e w3 ⟨a0, a1, rfl, OX, hz3⟩
 obtain ⟨v, hv⟩ : ∃ v, v = verCur t y := ⟨_, rfl⟩
 obtain ⟨ok, hok⟩ : ∃ b, b = curOk t y := ⟨_, rfl⟩
 rw [← hv] at OX ⊢
 rw [← hok]
 have hvl : v.path.parts.length ≤ 1048576 := by rw [hv, verCur_len]; omega
 have HV := Lib.hid hv
 have HOK := Lib.hid hok
 clear hv hok
 have r0v := Pkt.own_rd0 OX
 have r1v := Pkt.own_rd1 OX
 clear OX
 obtain ⟨o_0v, c_0v, rfl, _⟩ := r0v.shape
 obtain ⟨o_1v, c_1v, rfl, _⟩ := r1v.shape
 have hx3 : Ext w3 (w3.alloc (.cells #[.int .i64 v.kind, .int .i64 v.src, .int .i64 v.dst, .slice o_0v v.path.parts.length c_0v, .int .i64 v.pi, .int .i64 v.hi, .int .i64 v.beta, .int .i64 v.rid, .int .i64 v.seq, .slice o_1v v.pay.length c_1v] 28)) := (Ext.refl _).alloc _
 have HB3 := Lib.hid (blk_new w3 (.cells #[.int .i64 v.kind, .int .i64 v.src, .int .i64 v.dst, .slice o_0v v.path.parts.length c_0v, .int .i64 v.pi, .int .i64 v.hi, .int .i64 v.beta, .int .i64 v.rid, .int .i64 v.seq, .slice o_1v v.pay.length c_1v] 28))
 try clear cf2
 try clear cf3
 try clear cf4
 have cf5 := blk10 (Ext.block (((hz2.trans hx2).trans hz3).trans hx3) HB1.out)
 have cf6 := blk2 (Ext.block (hz3.trans hx3) HB2.out.1)
 have cf7 := blk10 (Ext.block (hz3.trans hx3) HB2.out.2)
 have cf8 := blk10 HB3.out
 go_wp2_with fail
 refine (s_VerifyCurrentHop t _ _ y _ _ _ (rA.ext ((hx2.trans hz3).trans hx3)) (rL.ext ((hx2.trans hz3).trans hx3)) (r0y.ext ((hx2.trans hz3).trans hx3)) (r1y.ext ((hx2.trans hz3).trans hx3)) (by omega)).mono ?_
 rintro e w4 ⟨a0, a1, rfl, OX, hz4⟩
 rw [← HV.out] at OX ⊢
 rw [← HOK.out]
 have r0w := Pkt.own_rd0 OX
 have r1w := Pkt.own_rd1 OX
 clear OX
 obtain ⟨o_0w, c_0w, rfl, _⟩ := r0w.shape
 obtain ⟨o_1w, c_1w, rfl, _⟩ := r1w.shape
 have hx4 : Ext w4 (w4.alloc (.cells #[.int .i64 v.kind, .int .i64 v.src, .int .i64 v.dst, .slice o_0w v.path.parts.length c_0w, .int .i64 v.pi, .int .i64 v.hi, .int .i64 v.beta, .int .i64 v.rid, .int .i64 v.seq, .slice o_1w v.pay.length c_1w] 28)) := (Ext.refl _).alloc _
 have HB4 := Lib.hid (blk_new w4 (.cells #[.int .i64 v.kind, .int .i64 v.src, .int .i64 v.dst, .slice o_0w v.path.parts.length c_0w, .int .i64 v.pi, .int .i64 v.hi, .int .i64 v.beta, .int .i64 v.rid, .int .i64 v.seq, .slice o_1w v.pay.length c_1w] 28))
 try clear cf5
 try clear cf6
 try clear cf7
 try clear cf8
 have cf9 := blk10 (Ext.block (((((hz2.trans hx2).trans hz3).trans hx3).trans hz4).trans hx4) HB1.out)
 have cf10 := blk2 (Ext.block (((hz3.trans hx3).trans hz4).trans hx4) HB2.out.1)
 have cf11 := blk10 (Ext.block (((hz3.trans hx3).trans hz4).trans hx4) HB2.out.2)
 have cf12 := blk10 (Ext.block (hz4.trans hx4) HB3.out)
 have cf13 := blk10 HB4.out
 go_wp2_with fail
 refine (s_DrawCurrentHopValid code _ _ (hr.ext (((((((hz1.trans hx1).trans hz2).trans hx2).trans hz3).trans hx3).trans hz4).trans hx4)) hu hl).mono ?_
 rintro e w5 ⟨u0, u1, z, now, rfl, hzb, R0, R1, hz5⟩
 have r0z := Own.rd _ R0
 have r1z := Own.rd _ R1
 clear R0 R1
 obtain ⟨o_0z, c_0z, rfl, _⟩ := r0z.shape
 obtain ⟨o_1z, c_1z, rfl, _⟩ := r1z.shape
 have hzs := hzb.size
 have hzl := hzb.parts
 have hx5 : Ext w5 (w5.alloc (.cells #[.int .i64 z.kind, .int .i64 z.src, .int .i64 z.dst, .slice o_0z z.path.parts.length c_0z, .int .i64 z.pi, .int .i64 z.hi, .int .i64 z.beta, .int .i64 z.rid, .int .i64 z.seq, .slice o_1z z.pay.length c_1z] 28)) := (Ext.refl _).alloc _
 have HB5 := Lib.hid (blk_new w5 (.cells #[.int .i64 z.kind, .int .i64 z.src, .int .i64 z.dst, .slice o_0z z.path.parts.length c_0z, .int .i64 z.pi, .int .i64 z.hi, .int .i64 z.beta, .int .i64 z.rid, .int .i64 z.seq, .slice o_1z z.pay.length c_1z] 28))
 have hn1 : (ok != ok) = false := by simp
 obtain ⟨ci, hci⟩ : ∃ b, b = curIn z now := ⟨_, rfl⟩
 have hn2 : (ci != ci) = false := by simp
 have HCI := Lib.hid hci
 clear hci
 try clear cf9
 try clear cf10
 try clear cf11
 try clear cf12
 try clear cf13
 have cf14 := blk10 (Ext.block (((((((hz2.trans hx2).trans hz3).trans hx3).trans hz4).trans hx4).trans hz5).trans hx5) HB1.out)
 have cf15 := blk2 (Ext.block (((((hz3.trans hx3).trans hz4).trans hx4).trans hz5).trans hx5) HB2.out.1)
 have cf16 := blk10 (Ext.block (((((hz3.trans hx3).trans hz4).trans hx4).trans hz5).trans hx5) HB2.out.2)
 have cf17 := blk10 (Ext.block (((hz4.trans hx4).trans hz5).trans hx5) HB3.out)
 have cf18 := blk10 (Ext.block (hz5.trans hx5) HB4.out)
 have cf19 := blk10 HB5.out
 go_wp2_with fail
 refine planStep (.blk [0, 2] (.one 1 (.one 3 (.one 4 (.blk [5, 6, 7, 8] (.one 9 (.blk [10, 11, 12, 13, 14, 15, 16, 17, 18, 19, 21, 22] (.one 20 (.one 23 (.blk [24, 25] .done)))))))))) [] (by kernel_rfl) (by as_aux_lemma => kernel_rfl) ?_
 try clear cf14
 try clear cf15
 try clear cf16
 try clear cf17
 try clear cf18
 try clear cf19
 have cf20 := blk10 (Ext.block ((((((((hz2.trans hx2).trans hz3).trans hx3).trans hz4).trans hx4).trans hz5).trans hx5).trans ((Ext.refl _).drew)) HB1.out)
 have cf21 := blk2 (Ext.block ((((((hz3.trans hx3).trans hz4).trans hx4).trans hz5).trans hx5).trans ((Ext.refl _).drew)) HB2.out.1)
 have cf22 := blk10 (Ext.block ((((((hz3.trans hx3).trans hz4).trans hx4).trans hz5).trans hx5).trans ((Ext.refl _).drew)) HB2.out.2)
 have cf23 := blk10 (Ext.block ((((hz4.trans hx4).trans hz5).trans hx5).trans ((Ext.refl _).drew)) HB3.out)
 have cf24 := blk10 (Ext.block ((hz5.trans hx5).trans ((Ext.refl _).drew)) HB4.out)
 have cf25 := blk10 (Ext.block ((Ext.refl _).drew) HB5.out)
 refine blkStep (fun K HK => ?_)
 simp only [PK]
 go_wp2_with fail
 refine HK.out _ _ ?_
 clear HK K
 refine oneStep (fun K HK => ?_)
 simp only [PK]
 go_wp2_with fail
 refine (i_AdvanceHop x _ _ _ (r0x.ext (((((((((hx1.trans hz2).trans hx2).trans hz3).trans hx3).trans hz4).trans hx4).trans hz5).trans hx5).trans ((Ext.refl _).drew))) (r1x.ext (((((((((hx1.trans hz2).trans hx2).trans hz3).trans hx3).trans hz4).trans hx4).trans hz5).trans hx5).trans ((Ext.refl _).drew))) (by omega)).mono ?_
 rintro e w6 ⟨b0, b1, rfl, OX, hz6⟩
 obtain ⟨m, hm⟩ : ∃ m, m = advance x := ⟨_, rfl⟩
 rw [← hm] at OX ⊢
 have hml : m.path.parts.length ≤ 1048576 := by rw [hm, advance_len]; omega
 have HM := Lib.hid hm
 clear hm
 have r0m := Pkt.own_rd0 OX
 have r1m := Pkt.own_rd1 OX
 clear OX
 obtain ⟨o_0m, c_0m, rfl, _⟩ := r0m.shape
 obtain ⟨o_1m, c_1m, rfl, _⟩ := r1m.shape
 try clear cf20
 try clear cf21
 try clear cf22
 try clear cf23
 try clear cf24
 try clear cf25
 have cf26 := blk10 (Ext.block (((((((((hz2.trans hx2).trans hz3).trans hx3).trans hz4).trans hx4).trans hz5).trans hx5).trans ((Ext.refl _).drew)).trans hz6) HB1.out)
 have cf27 := blk2 (Ext.block (((((((hz3.trans hx3).trans hz4).trans hx4).trans hz5).trans hx5).trans ((Ext.refl _).drew)).trans hz6) HB2.out.1)
 have cf28 := blk10 (Ext.block (((((((hz3.trans hx3).trans hz4).trans hx4).trans hz5).trans hx5).trans ((Ext.refl _).drew)).trans hz6) HB2.out.2)
 have cf29 := blk10 (Ext.block (((((hz4.trans hx4).trans hz5).trans hx5).trans ((Ext.refl _).drew)).trans hz6) HB3.out)
 have cf30 := blk10 (Ext.block (((hz5.trans hx5).trans ((Ext.refl _).drew)).trans hz6) HB4.out)
 have cf31 := blk10 (Ext.block (((Ext.refl _).drew).trans hz6) HB5.out)
 go_wp2_with fail
 refine HK.out _ _ hz6 ?_
 clear HK K
 refine oneStep (fun K HK => ?_)
 simp only [PK]
 go_wp2_with fail
 refine (s_AdvanceHop x _ _ _ (r0x.ext ((((((((((hx1.trans hz2).trans hx2).trans hz3).trans hx3).trans hz4).trans hx4).trans hz5).trans hx5).trans ((Ext.refl _).drew)).trans hz6)) (r1x.ext ((((((((((hx1.trans hz2).trans hx2).trans hz3).trans hx3).trans hz4).trans hx4).trans hz5).trans hx5).trans ((Ext.refl _).drew)).trans hz6)) (by omega)).mono ?_
 rintro e w7 ⟨b0, b1, rfl, OX, hz7⟩
 rw [← HM.out] at OX ⊢
 have r0n := Pkt.own_rd0 OX
 have r1n := Pkt.own_rd1 OX
 clear OX
 obtain ⟨o_0n, c_0n, rfl, _⟩ := r0n.shape
 obtain ⟨o_1n, c_1n, rfl, _⟩ := r1n.shape
 try clear cf26
 try clear cf27
 try clear cf28
 try clear cf29
 try clear cf30
 try clear cf31
 have cf32 := blk10 (Ext.block ((((((((((hz2.trans hx2).trans hz3).trans hx3).trans hz4).trans hx4).trans hz5).trans hx5).trans ((Ext.refl _).drew)).trans hz6).trans hz7) HB1.out)
 have cf33 := blk2 (Ext.block ((((((((hz3.trans hx3).trans hz4).trans hx4).trans hz5).trans hx5).trans ((Ext.refl _).drew)).trans hz6).trans hz7) HB2.out.1)
 have cf34 := blk10 (Ext.block ((((((((hz3.trans hx3).trans hz4).trans hx4).trans hz5).trans hx5).trans ((Ext.refl _).drew)).trans hz6).trans hz7) HB2.out.2)
 have cf35 := blk10 (Ext.block ((((((hz4.trans hx4).trans hz5).trans hx5).trans ((Ext.refl _).drew)).trans hz6).trans hz7) HB3.out)
 have cf36 := blk10 (Ext.block ((((hz5.trans hx5).trans ((Ext.refl _).drew)).trans hz6).trans hz7) HB4.out)
 have cf37 := blk10 (Ext.block ((((Ext.refl _).drew).trans hz6).trans hz7) HB5.out)
 go_wp2_with fail
 refine HK.out _ _ hz7 ?_
 clear HK K
 refine oneStep (fun K HK => ?_)
 simp only [PK]
 go_wp2_with fail
 refine (l_samePacketT m _ _ _ _ _ (r0m.ext hz7) (r1m.ext hz7) (r0n.ext (Ext.refl _)) (r1n.ext (Ext.refl _)) hml).mono ?_
 rintro e w8 ⟨rfl, hz8⟩
 try clear cf32
 try clear cf33
 try clear cf34
 try clear cf35
 try clear cf36
 try clear cf37
 have cf38 := blk10 (Ext.block (((((((((((hz2.trans hx2).trans hz3).trans hx3).trans hz4).trans hx4).trans hz5).trans hx5).trans ((Ext.refl _).drew)).trans hz6).trans hz7).trans hz8) HB1.out)
 have cf39 := blk2 (Ext.block (((((((((hz3.trans hx3).trans hz4).trans hx4).trans hz5).trans hx5).trans ((Ext.refl _).drew)).trans hz6).trans hz7).trans hz8) HB2.out.1)
 have cf40 := blk10 (Ext.block (((((((((hz3.trans hx3).trans hz4).trans hx4).trans hz5).trans hx5).trans ((Ext.refl _).drew)).trans hz6).trans hz7).trans hz8) HB2.out.2)
 have cf41 := blk10 (Ext.block (((((((hz4.trans hx4).trans hz5).trans hx5).trans ((Ext.refl _).drew)).trans hz6).trans hz7).trans hz8) HB3.out)
 have cf42 := blk10 (Ext.block (((((hz5.trans hx5).trans ((Ext.refl _).drew)).trans hz6).trans hz7).trans hz8) HB4.out)
 have cf43 := blk10 (Ext.block (((((Ext.refl _).drew).trans hz6).trans hz7).trans hz8) HB5.out)
 go_wp2_with fail
 refine HK.out _ _ hz8 ?_
 clear HK K
 refine blkStep (fun K HK => ?_)
 simp only [PK]
 go_wp2_with fail
 refine HK.out _ _ ?_
 clear HK K
 refine oneStep (fun K HK => ?_)
 simp only [PK]
 go_wp2_with fail
 refine (l_samePacketT v _ _ _ _ _ (r0v.ext ((((((((hx3.trans hz4).trans hx4).trans hz5).trans hx5).trans ((Ext.refl _).drew)).trans hz6).trans hz7).trans hz8)) (r1v.ext ((((((((hx3.trans hz4).trans hx4).trans hz5).trans hx5).trans ((Ext.refl _).drew)).trans hz6).trans hz7).trans hz8)) (r0w.ext ((((((hx4.trans hz5).trans hx5).trans ((Ext.refl _).drew)).trans hz6).trans hz7).trans hz8)) (r1w.ext ((((((hx4.trans hz5).trans hx5).trans ((Ext.refl _).drew)).trans hz6).trans hz7).trans hz8)) hvl).mono ?_
 rintro e w9 ⟨rfl, hz9⟩
 try clear cf38
 try clear cf39
 try clear cf40
 try clear cf41
 try clear cf42
 try clear cf43
 have cf44 := blk10 (Ext.block ((((((((((((hz2.trans hx2).trans hz3).trans hx3).trans hz4).trans hx4).trans hz5).trans hx5).trans ((Ext.refl _).drew)).trans hz6).trans hz7).trans hz8).trans hz9) HB1.out)
 have cf45 := blk2 (Ext.block ((((((((((hz3.trans hx3).trans hz4).trans hx4).trans hz5).trans hx5).trans ((Ext.refl _).drew)).trans hz6).trans hz7).trans hz8).trans hz9) HB2.out.1)
 have cf46 := blk10 (Ext.block ((((((((((hz3.trans hx3).trans hz4).trans hx4).trans hz5).trans hx5).trans ((Ext.refl _).drew)).trans hz6).trans hz7).trans hz8).trans hz9) HB2.out.2)
 have cf47 := blk10 (Ext.block ((((((((hz4.trans hx4).trans hz5).trans hx5).trans ((Ext.refl _).drew)).trans hz6).trans hz7).trans hz8).trans hz9) HB3.out)
 have cf48 := blk10 (Ext.block ((((((hz5.trans hx5).trans ((Ext.refl _).drew)).trans hz6).trans hz7).trans hz8).trans hz9) HB4.out)
 have cf49 := blk10 (Ext.block ((((((Ext.refl _).drew).trans hz6).trans hz7).trans hz8).trans hz9) HB5.out)
 go_wp2_with fail
 refine HK.out _ _ hz9 ?_
 clear HK K
 refine blkStep (fun K HK => ?_)
 simp only [PK]
 go_wp2_with fail
 refine HK.out _ _ ?_
 clear HK K
 refine oneStep (fun K HK => ?_)
 simp only [PK]
 go_wp2_with fail
 refine (i_CurrentHopValid z _ _ now _ (r0z.ext (((((hx5.trans ((Ext.refl _).drew)).trans hz6).trans hz7).trans hz8).trans hz9))).mono ?_
 rintro e w10 ⟨rfl, hz10⟩
 rw [← HCI.out]
 try clear cf44
 try clear cf45
 try clear cf46
 try clear cf47
 try clear cf48
 try clear cf49
 have cf50 := blk10 (Ext.block (((((((((((((hz2.trans hx2).trans hz3).trans hx3).trans hz4).trans hx4).trans hz5).trans hx5).trans ((Ext.refl _).drew)).trans hz6).trans hz7).trans hz8).trans hz9).trans hz10) HB1.out)
 have cf51 := blk2 (Ext.block (((((((((((hz3.trans hx3).trans hz4).trans hx4).trans hz5).trans hx5).trans ((Ext.refl _).drew)).trans hz6).trans hz7).trans hz8).trans hz9).trans hz10) HB2.out.1)
 have cf52 := blk10 (Ext.block (((((((((((hz3.trans hx3).trans hz4).trans hx4).trans hz5).trans hx5).trans ((Ext.refl _).drew)).trans hz6).trans hz7).trans hz8).trans hz9).trans hz10) HB2.out.2)
 have cf53 := blk10 (Ext.block (((((((((hz4.trans hx4).trans hz5).trans hx5).trans ((Ext.refl _).drew)).trans hz6).trans hz7).trans hz8).trans hz9).trans hz10) HB3.out)
 have cf54 := blk10 (Ext.block (((((((hz5.trans hx5).trans ((Ext.refl _).drew)).trans hz6).trans hz7).trans hz8).trans hz9).trans hz10) HB4.out)
 have cf55 := blk10 (Ext.block (((((((Ext.refl _).drew).trans hz6).trans hz7).trans hz8).trans hz9).trans hz10) HB5.out)
 go_wp2_with fail
 refine HK.out _ _ hz10 ?_
 clear HK K
 refine oneStep (fun K HK => ?_)
 simp only [PK]
 go_wp2_with fail
 refine (s_CurrentHopValid z _ _ now _ (r0z.ext ((((((hx5.trans ((Ext.refl _).drew)).trans hz6).trans hz7).trans hz8).trans hz9).trans hz10))).mono ?_
 rintro e w11 ⟨rfl, hz11⟩
 rw [← HCI.out]
 try clear cf50
 try clear cf51
 try clear cf52
 try clear cf53
 try clear cf54
 try clear cf55
 have cf56 := blk10 (Ext.block ((((((((((((((hz2.trans hx2).trans hz3).trans hx3).trans hz4).trans hx4).trans hz5).trans hx5).trans ((Ext.refl _).drew)).trans hz6).trans hz7).trans hz8).trans hz9).trans hz10).trans hz11) HB1.out)
 have cf57 := blk2 (Ext.block ((((((((((((hz3.trans hx3).trans hz4).trans hx4).trans hz5).trans hx5).trans ((Ext.refl _).drew)).trans hz6).trans hz7).trans hz8).trans hz9).trans hz10).trans hz11) HB2.out.1)
 have cf58 := blk10 (Ext.block ((((((((((((hz3.trans hx3).trans hz4).trans hx4).trans hz5).trans hx5).trans ((Ext.refl _).drew)).trans hz6).trans hz7).trans hz8).trans hz9).trans hz10).trans hz11) HB2.out.2)
 have cf59 := blk10 (Ext.block ((((((((((hz4.trans hx4).trans hz5).trans hx5).trans ((Ext.refl _).drew)).trans hz6).trans hz7).trans hz8).trans hz9).trans hz10).trans hz11) HB3.out)
 have cf60 := blk10 (Ext.block ((((((((hz5.trans hx5).trans ((Ext.refl _).drew)).trans hz6).trans hz7).trans hz8).trans hz9).trans hz10).trans hz11) HB4.out)
 have cf61 := blk10 (Ext.block ((((((((Ext.refl _).drew).trans hz6).trans hz7).trans hz8).trans hz9).trans hz10).trans hz11) HB5.out)
 go_wp2_with fail
 refine HK.out _ _ hz11 ?_
 clear HK K
 refine blkStep (fun K HK => ?_)
 simp only [PK]
 go_wp2_with fail
 refine HK.out _ _ ?_
 clear HK K
 refine doneStep (by kernel_rfl) ?_
 clear hn1 hn2
 cases ok
 case false =>
  as_aux_lemma =>
   have hvy : v = y := by rw [HV.out]; unfold verCur; rw [← HOK.out]; rfl
   subst hvy
   go_wp2_with fail
   refine (l_samePacketT v _ _ _ _ _ (r0v.ext (((((((((((hx3.trans hz4).trans hx4).trans hz5).trans hx5).trans ((Ext.refl _).drew)).trans hz6).trans hz7).trans hz8).trans hz9).trans hz10).trans hz11)) (r1v.ext (((((((((((hx3.trans hz4).trans hx4).trans hz5).trans hx5).trans ((Ext.refl _).drew)).trans hz6).trans hz7).trans hz8).trans hz9).trans hz10).trans hz11)) (r0y.ext (((((((((((((hx2.trans hz3).trans hx3).trans hz4).trans hx4).trans hz5).trans hx5).trans ((Ext.refl _).drew)).trans hz6).trans hz7).trans hz8).trans hz9).trans hz10).trans hz11)) (r1y.ext (((((((((((((hx2.trans hz3).trans hx3).trans hz4).trans hx4).trans hz5).trans hx5).trans ((Ext.refl _).drew)).trans hz6).trans hz7).trans hz8).trans hz9).trans hz10).trans hz11)) hvl).mono ?_
   rintro e w12 ⟨rfl, hz12⟩
   try clear cf56
   try clear cf57
   try clear cf58
   try clear cf59
   try clear cf60
   try clear cf61
   have cf62 := blk10 (Ext.block (((((((((((((((hz2.trans hx2).trans hz3).trans hx3).trans hz4).trans hx4).trans hz5).trans hx5).trans ((Ext.refl _).drew)).trans hz6).trans hz7).trans hz8).trans hz9).trans hz10).trans hz11).trans hz12) HB1.out)
   have cf63 := blk2 (Ext.block (((((((((((((hz3.trans hx3).trans hz4).trans hx4).trans hz5).trans hx5).trans ((Ext.refl _).drew)).trans hz6).trans hz7).trans hz8).trans hz9).trans hz10).trans hz11).trans hz12) HB2.out.1)
   have cf64 := blk10 (Ext.block (((((((((((((hz3.trans hx3).trans hz4).trans hx4).trans hz5).trans hx5).trans ((Ext.refl _).drew)).trans hz6).trans hz7).trans hz8).trans hz9).trans hz10).trans hz11).trans hz12) HB2.out.2)
   have cf65 := blk10 (Ext.block (((((((((((hz4.trans hx4).trans hz5).trans hx5).trans ((Ext.refl _).drew)).trans hz6).trans hz7).trans hz8).trans hz9).trans hz10).trans hz11).trans hz12) HB3.out)
   have cf66 := blk10 (Ext.block (((((((((hz5.trans hx5).trans ((Ext.refl _).drew)).trans hz6).trans hz7).trans hz8).trans hz9).trans hz10).trans hz11).trans hz12) HB4.out)
   have cf67 := blk10 (Ext.block (((((((((Ext.refl _).drew).trans hz6).trans hz7).trans hz8).trans hz9).trans hz10).trans hz11).trans hz12) HB5.out)
   go_wp2_with fail
   go_ret
   exact ⟨rfl, (((((((((((((((((hz1.trans hx1).trans hz2).trans hx2).trans hz3).trans hx3).trans hz4).trans hx4).trans hz5).trans hx5).trans ((Ext.refl _).drew)).trans hz6).trans hz7).trans hz8).trans hz9).trans hz10).trans hz11).trans hz12)⟩
 case true =>
  as_aux_lemma =>
   have hco := HOK.out.symm
   unfold curOk at hco
   simp only [Bool.and_eq_true] at hco
   obtain ⟨b1, b2⟩ := hco
   have HVB : Hid (v.beta = curAfter y) := Lib.hid (by rw [HV.out]; unfold verCur; rw [← HOK.out]; rfl)
   have HVH := Lib.hid b2
   clear b2
   obtain ⟨⟨p0, p1, p2⟩, q0, q1, q2⟩ := hasHop_parts b1
   clear b1
   have hcp := curPart_at p2
   obtain ⟨b, off, oh, ch, rfl, hc, hr'⟩ := Part.at (r0y.ext (((((((((((((hx2.trans hz3).trans hx3).trans hz4).trans hx4).trans hz5).trans hx5).trans ((Ext.refl _).drew)).trans hz6).trans hz7).trans hz8).trans hz9).trans hz10).trans hz11)) y.pi.toNat p2
   rw [← hcp] at hc hr'
   clear hcp
   have hch := curHop_at q2
   obtain ⟨b3, off3, rfl, ht⟩ := Hop.at hr' y.hi.toNat q2
   rw [← hch] at ht
   clear hch hr'
   obtain ⟨cp, hcp⟩ : ∃ c, c = curPart y := ⟨_, rfl⟩
   obtain ⟨hd, hhd⟩ : ∃ h, h = curHop y := ⟨_, rfl⟩
   rw [← hcp] at hc q1 q2
   rw [← hhd] at ht
   have HCP := Lib.hid hcp
   have HHD := Lib.hid hhd
   clear hcp hhd
   try clear cf56
   try clear cf57
   try clear cf58
   try clear cf59
   try clear cf60
   try clear cf61
   have cf68 := blk2 (Ext.block ((((((((((((hz3.trans hx3).trans hz4).trans hx4).trans hz5).trans hx5).trans ((Ext.refl _).drew)).trans hz6).trans hz7).trans hz8).trans hz9).trans hz10).trans hz11) HB2.out.1)
   have cf69 := blk10 (Ext.block ((((((((((((hz3.trans hx3).trans hz4).trans hx4).trans hz5).trans hx5).trans ((Ext.refl _).drew)).trans hz6).trans hz7).trans hz8).trans hz9).trans hz10).trans hz11) HB2.out.2)
   have cf70 := blk10 (Ext.block ((((((((((hz4.trans hx4).trans hz5).trans hx5).trans ((Ext.refl _).drew)).trans hz6).trans hz7).trans hz8).trans hz9).trans hz10).trans hz11) HB3.out)
   go_upto_region 12 with (fail)
   refine planStep (.blk [0, 1, 2, 3, 4, 5, 6, 7, 8, 9, 10, 11] (.one 12 (.one 13 .done))) [13] (by kernel_rfl) (by kernel_rfl) ?_
   have hxd := (Ext.refl w11).drew
   obtain ⟨wd, hnw⟩ : ∃ wn, wn = w11.drew := ⟨_, rfl⟩
   rw [← hnw] at hxd ⊢
   clear hnw
   try clear cf68
   try clear cf69
   try clear cf70
   have cf71 := blk2 (Ext.block (((((((((((((hz3.trans hx3).trans hz4).trans hx4).trans hz5).trans hx5).trans ((Ext.refl _).drew)).trans hz6).trans hz7).trans hz8).trans hz9).trans hz10).trans hz11).trans hxd) HB2.out.1)
   have cf72 := blk10 (Ext.block (((((((((((((hz3.trans hx3).trans hz4).trans hx4).trans hz5).trans hx5).trans ((Ext.refl _).drew)).trans hz6).trans hz7).trans hz8).trans hz9).trans hz10).trans hz11).trans hxd) HB2.out.2)
   have cf73 := blk10 (Ext.block (((((((((((hz4.trans hx4).trans hz5).trans hx5).trans ((Ext.refl _).drew)).trans hz6).trans hz7).trans hz8).trans hz9).trans hz10).trans hz11).trans hxd) HB3.out)
   have cf74 := Part.at_ext hxd hc
   have cf75 := hopc_ext hxd ht
   refine blkStep (fun K HK => ?_)
   simp only [PK]
   go_wp2_with fail
   refine HK.out _ _ ?_
   clear HK K
   refine oneStep (fun K HK => ?_)
   simp only [PK]
   go_wp2_with fail
   refine HK.out _ _ ((Ext.refl _).alloc _) ?_
   clear HK K
   refine badStep (by kernel_rfl) (fun K HK => ?_)
   simp only [PK]
   go_wp2_with fail
   refine HK.out _ _ ?_
   clear HK K
   have hxv : Ext wd (wd.alloc (.cells #[.int .i64 hd.asn, .int .i64 hd.ing, .int .i64 hd.eg, .int .i64 hd.exp, .int .i64 hd.mac] 44)) := (Ext.refl wd).alloc _
   have HBV := Lib.hid (blk_new wd (.cells #[.int .i64 hd.asn, .int .i64 hd.ing, .int .i64 hd.eg, .int .i64 hd.exp, .int .i64 hd.mac] 44))
   generalize wd.alloc (.cells #[.int .i64 hd.asn, .int .i64 hd.ing, .int .i64 hd.eg, .int .i64 hd.exp, .int .i64 hd.mac] 44) = wv at hxv HBV ⊢
   refine doneStep (by kernel_rfl) ?_
   try clear cf71
   try clear cf72
   try clear cf73
   try clear cf74
   try clear cf75
   have cf76 := blk2 (Ext.block ((((((((((((((hz3.trans hx3).trans hz4).trans hx4).trans hz5).trans hx5).trans ((Ext.refl _).drew)).trans hz6).trans hz7).trans hz8).trans hz9).trans hz10).trans hz11).trans hxd).trans hxv) HB2.out.1)
   have cf77 := blk10 (Ext.block ((((((((((((((hz3.trans hx3).trans hz4).trans hx4).trans hz5).trans hx5).trans ((Ext.refl _).drew)).trans hz6).trans hz7).trans hz8).trans hz9).trans hz10).trans hz11).trans hxd).trans hxv) HB2.out.2)
   have cf78 := blk10 (Ext.block ((((((((((((hz4.trans hx4).trans hz5).trans hx5).trans ((Ext.refl _).drew)).trans hz6).trans hz7).trans hz8).trans hz9).trans hz10).trans hz11).trans hxd).trans hxv) HB3.out)
   have cf79 := blk5 HBV.out
   have cf80 := Part.at_ext (hxd.trans hxv) hc
   have cf81 := hopc_ext (hxd.trans hxv) ht
   go_wp2_with fail
   refine (i_IsReversed cp.kind _).mono ?_
   rintro e _ ⟨rfl, rfl⟩
   cases hrv : isRev cp.kind
   ·
    have hva : v.beta = addMod y.beta hd.mac := by rw [HVB.out, HHD.out]; unfold curAfter; rw [← HCP.out, hrv]; rfl
    have hvb : (v.beta == addMod y.beta hd.mac) = true := by rw [beq_iff_eq]; exact hva
    have hvh : verHop t cp.ts y.beta hd = true := by
     have h1 := HVH.out
     unfold curBefore at h1
     rw [← HCP.out, ← HHD.out, hrv] at h1
     simp only [Bool.false_eq_true, if_false] at h1
     exact h1
    clear hva hrv
    go_wp2_with fail
    refine planStep (.blk [0, 1, 2, 3, 4, 5] (.one 6 (.blk [7, 8, 9, 10, 11, 12, 13, 14, 15, 16, 17, 18, 19, 20] (.one 21 (.blk [22, 23] .done))))) [] (by kernel_rfl) (by kernel_rfl) ?_
    try clear cf76
    try clear cf77
    try clear cf78
    try clear cf79
    try clear cf80
    try clear cf81
    have cf82 := blk2 (Ext.block (((((((((((((((hz3.trans hx3).trans hz4).trans hx4).trans hz5).trans hx5).trans ((Ext.refl _).drew)).trans hz6).trans hz7).trans hz8).trans hz9).trans hz10).trans hz11).trans hxd).trans hxv).trans ((Ext.refl _).drew)) HB2.out.1)
    have cf83 := blk10 (Ext.block (((((((((((((((hz3.trans hx3).trans hz4).trans hx4).trans hz5).trans hx5).trans ((Ext.refl _).drew)).trans hz6).trans hz7).trans hz8).trans hz9).trans hz10).trans hz11).trans hxd).trans hxv).trans ((Ext.refl _).drew)) HB2.out.2)
    have cf84 := blk10 (Ext.block (((((((((((((hz4.trans hx4).trans hz5).trans hx5).trans ((Ext.refl _).drew)).trans hz6).trans hz7).trans hz8).trans hz9).trans hz10).trans hz11).trans hxd).trans hxv).trans ((Ext.refl _).drew)) HB3.out)
    have cf85 := blk5 (Ext.block ((Ext.refl _).drew) HBV.out)
    have cf86 := Part.at_ext ((hxd.trans hxv).trans ((Ext.refl _).drew)) hc
    have cf87 := hopc_ext ((hxd.trans hxv).trans ((Ext.refl _).drew)) ht
    refine blkStep (fun K HK => ?_)
    simp only [PK]
    go_wp2_with fail
    refine HK.out _ _ ?_
    clear HK K
    refine oneStep (fun K HK => ?_)
    simp only [PK]
    go_wp2_with fail
    refine (sameExt (i_AddMod y.beta hd.mac _)).mono ?_
    rintro e w14 ⟨rfl, hz14⟩
    try clear cf82
    try clear cf83
    try clear cf84
    try clear cf85
    try clear cf86
    try clear cf87
    have cf88 := blk2 (Ext.block ((((((((((((((((hz3.trans hx3).trans hz4).trans hx4).trans hz5).trans hx5).trans ((Ext.refl _).drew)).trans hz6).trans hz7).trans hz8).trans hz9).trans hz10).trans hz11).trans hxd).trans hxv).trans ((Ext.refl _).drew)).trans hz14) HB2.out.1)
    have cf89 := blk10 (Ext.block ((((((((((((((((hz3.trans hx3).trans hz4).trans hx4).trans hz5).trans hx5).trans ((Ext.refl _).drew)).trans hz6).trans hz7).trans hz8).trans hz9).trans hz10).trans hz11).trans hxd).trans hxv).trans ((Ext.refl _).drew)).trans hz14) HB2.out.2)
    have cf90 := blk10 (Ext.block ((((((((((((((hz4.trans hx4).trans hz5).trans hx5).trans ((Ext.refl _).drew)).trans hz6).trans hz7).trans hz8).trans hz9).trans hz10).trans hz11).trans hxd).trans hxv).trans ((Ext.refl _).drew)).trans hz14) HB3.out)
    have cf91 := blk5 (Ext.block (((Ext.refl _).drew).trans hz14) HBV.out)
    have cf92 := Part.at_ext (((hxd.trans hxv).trans ((Ext.refl _).drew)).trans hz14) hc
    have cf93 := hopc_ext (((hxd.trans hxv).trans ((Ext.refl _).drew)).trans hz14) ht
    go_wp2_with fail
    refine HK.out _ _ hz14 ?_
    clear HK K
    refine blkStep (fun K HK => ?_)
    simp only [PK]
    go_wp2_with fail
    refine HK.out _ _ ?_
    clear HK K
    refine oneStep (fun K HK => ?_)
    simp only [PK]
    go_wp2_with fail
    refine (i_VerifyHop t _ _ cp.ts y.beta hd _ (rA.ext (((((((((((((((((hx2.trans hz3).trans hx3).trans hz4).trans hx4).trans hz5).trans hx5).trans ((Ext.refl _).drew)).trans hz6).trans hz7).trans hz8).trans hz9).trans hz10).trans hz11).trans hxd).trans hxv).trans ((Ext.refl _).drew)).trans hz14))).mono ?_
    rintro e w15 ⟨rfl, hz15⟩
    rw [hvh]
    try clear cf88
    try clear cf89
    try clear cf90
    try clear cf91
    try clear cf92
    try clear cf93
    have cf94 := blk2 (Ext.block (((((((((((((((((hz3.trans hx3).trans hz4).trans hx4).trans hz5).trans hx5).trans ((Ext.refl _).drew)).trans hz6).trans hz7).trans hz8).trans hz9).trans hz10).trans hz11).trans hxd).trans hxv).trans ((Ext.refl _).drew)).trans hz14).trans hz15) HB2.out.1)
    have cf95 := blk10 (Ext.block (((((((((((((((((hz3.trans hx3).trans hz4).trans hx4).trans hz5).trans hx5).trans ((Ext.refl _).drew)).trans hz6).trans hz7).trans hz8).trans hz9).trans hz10).trans hz11).trans hxd).trans hxv).trans ((Ext.refl _).drew)).trans hz14).trans hz15) HB2.out.2)
    have cf96 := blk10 (Ext.block (((((((((((((((hz4.trans hx4).trans hz5).trans hx5).trans ((Ext.refl _).drew)).trans hz6).trans hz7).trans hz8).trans hz9).trans hz10).trans hz11).trans hxd).trans hxv).trans ((Ext.refl _).drew)).trans hz14).trans hz15) HB3.out)
    have cf97 := blk5 (Ext.block ((((Ext.refl _).drew).trans hz14).trans hz15) HBV.out)
    have cf98 := Part.at_ext ((((hxd.trans hxv).trans ((Ext.refl _).drew)).trans hz14).trans hz15) hc
    have cf99 := hopc_ext ((((hxd.trans hxv).trans ((Ext.refl _).drew)).trans hz14).trans hz15) ht
    go_wp2_with fail
    refine HK.out _ _ hz15 ?_
    clear HK K
    refine blkStep (fun K HK => ?_)
    simp only [PK]
    go_wp2_with fail
    refine HK.out _ _ ?_
    clear HK K
    refine doneStep (by kernel_rfl) ?_
    go_wp2_with fail
    go_ret
    exact ⟨rfl, (((((((((((((((((((((hz1.trans hx1).trans hz2).trans hx2).trans hz3).trans hx3).trans hz4).trans hx4).trans hz5).trans hx5).trans ((Ext.refl _).drew)).trans hz6).trans hz7).trans hz8).trans hz9).trans hz10).trans hz11).trans hxd).trans hxv).trans ((Ext.refl _).drew)).trans hz14).trans hz15)⟩
   ·
    have hva : v.beta = subMod y.beta hd.mac := by rw [HVB.out, HHD.out]; unfold curAfter; rw [← HCP.out, hrv]; rfl
    have hvb : (v.beta == subMod y.beta hd.mac) = true := by rw [beq_iff_eq]; exact hva
    have hvh : verHop t cp.ts v.beta hd = true := by
     have h1 := HVH.out
     unfold curBefore at h1
     rw [← HCP.out, ← HHD.out, hrv] at h1
     simp only [if_true] at h1
     rw [hva]; exact h1
    clear hva hrv
    go_wp2_with fail
    refine planStep (.blk [0, 1, 2, 3, 4, 5] (.one 6 (.blk [7, 8, 9, 10, 11, 12, 13, 14, 15, 16, 17, 18, 19, 20] (.one 21 (.blk [22, 23] .done))))) [] (by kernel_rfl) (by kernel_rfl) ?_
    try clear cf76
    try clear cf77
    try clear cf78
    try clear cf79
    try clear cf80
    try clear cf81
    have cf100 := blk2 (Ext.block (((((((((((((((hz3.trans hx3).trans hz4).trans hx4).trans hz5).trans hx5).trans ((Ext.refl _).drew)).trans hz6).trans hz7).trans hz8).trans hz9).trans hz10).trans hz11).trans hxd).trans hxv).trans ((Ext.refl _).drew)) HB2.out.1)
    have cf101 := blk10 (Ext.block (((((((((((((((hz3.trans hx3).trans hz4).trans hx4).trans hz5).trans hx5).trans ((Ext.refl _).drew)).trans hz6).trans hz7).trans hz8).trans hz9).trans hz10).trans hz11).trans hxd).trans hxv).trans ((Ext.refl _).drew)) HB2.out.2)
    have cf102 := blk10 (Ext.block (((((((((((((hz4.trans hx4).trans hz5).trans hx5).trans ((Ext.refl _).drew)).trans hz6).trans hz7).trans hz8).trans hz9).trans hz10).trans hz11).trans hxd).trans hxv).trans ((Ext.refl _).drew)) HB3.out)
    have cf103 := blk5 (Ext.block ((Ext.refl _).drew) HBV.out)
    have cf104 := Part.at_ext ((hxd.trans hxv).trans ((Ext.refl _).drew)) hc
    have cf105 := hopc_ext ((hxd.trans hxv).trans ((Ext.refl _).drew)) ht
    refine blkStep (fun K HK => ?_)
    simp only [PK]
    go_wp2_with fail
    refine HK.out _ _ ?_
    clear HK K
    refine oneStep (fun K HK => ?_)
    simp only [PK]
    go_wp2_with fail
    refine (sameExt (i_SubMod y.beta hd.mac _)).mono ?_
    rintro e w16 ⟨rfl, hz16⟩
    try clear cf100
    try clear cf101
    try clear cf102
    try clear cf103
    try clear cf104
    try clear cf105
    have cf106 := blk2 (Ext.block ((((((((((((((((hz3.trans hx3).trans hz4).trans hx4).trans hz5).trans hx5).trans ((Ext.refl _).drew)).trans hz6).trans hz7).trans hz8).trans hz9).trans hz10).trans hz11).trans hxd).trans hxv).trans ((Ext.refl _).drew)).trans hz16) HB2.out.1)
    have cf107 := blk10 (Ext.block ((((((((((((((((hz3.trans hx3).trans hz4).trans hx4).trans hz5).trans hx5).trans ((Ext.refl _).drew)).trans hz6).trans hz7).trans hz8).trans hz9).trans hz10).trans hz11).trans hxd).trans hxv).trans ((Ext.refl _).drew)).trans hz16) HB2.out.2)
    have cf108 := blk10 (Ext.block ((((((((((((((hz4.trans hx4).trans hz5).trans hx5).trans ((Ext.refl _).drew)).trans hz6).trans hz7).trans hz8).trans hz9).trans hz10).trans hz11).trans hxd).trans hxv).trans ((Ext.refl _).drew)).trans hz16) HB3.out)
    have cf109 := blk5 (Ext.block (((Ext.refl _).drew).trans hz16) HBV.out)
    have cf110 := Part.at_ext (((hxd.trans hxv).trans ((Ext.refl _).drew)).trans hz16) hc
    have cf111 := hopc_ext (((hxd.trans hxv).trans ((Ext.refl _).drew)).trans hz16) ht
    go_wp2_with fail
    refine HK.out _ _ hz16 ?_
    clear HK K
    refine blkStep (fun K HK => ?_)
    simp only [PK]
    go_wp2_with fail
    refine HK.out _ _ ?_
    clear HK K
    refine oneStep (fun K HK => ?_)
    simp only [PK]
    go_wp2_with fail
    refine (i_VerifyHop t _ _ cp.ts v.beta hd _ (rA.ext (((((((((((((((((hx2.trans hz3).trans hx3).trans hz4).trans hx4).trans hz5).trans hx5).trans ((Ext.refl _).drew)).trans hz6).trans hz7).trans hz8).trans hz9).trans hz10).trans hz11).trans hxd).trans hxv).trans ((Ext.refl _).drew)).trans hz16))).mono ?_
    rintro e w17 ⟨rfl, hz17⟩
    rw [hvh]
    try clear cf106
    try clear cf107
    try clear cf108
    try clear cf109
    try clear cf110
    try clear cf111
    have cf112 := blk2 (Ext.block (((((((((((((((((hz3.trans hx3).trans hz4).trans hx4).trans hz5).trans hx5).trans ((Ext.refl _).drew)).trans hz6).trans hz7).trans hz8).trans hz9).trans hz10).trans hz11).trans hxd).trans hxv).trans ((Ext.refl _).drew)).trans hz16).trans hz17) HB2.out.1)
    have cf113 := blk10 (Ext.block (((((((((((((((((hz3.trans hx3).trans hz4).trans hx4).trans hz5).trans hx5).trans ((Ext.refl _).drew)).trans hz6).trans hz7).trans hz8).trans hz9).trans hz10).trans hz11).trans hxd).trans hxv).trans ((Ext.refl _).drew)).trans hz16).trans hz17) HB2.out.2)
    have cf114 := blk10 (Ext.block (((((((((((((((hz4.trans hx4).trans hz5).trans hx5).trans ((Ext.refl _).drew)).trans hz6).trans hz7).trans hz8).trans hz9).trans hz10).trans hz11).trans hxd).trans hxv).trans ((Ext.refl _).drew)).trans hz16).trans hz17) HB3.out)
    have cf115 := blk5 (Ext.block ((((Ext.refl _).drew).trans hz16).trans hz17) HBV.out)
    have cf116 := Part.at_ext ((((hxd.trans hxv).trans ((Ext.refl _).drew)).trans hz16).trans hz17) hc
    have cf117 := hopc_ext ((((hxd.trans hxv).trans ((Ext.refl _).drew)).trans hz16).trans hz17) ht
    go_wp2_with fail
    refine HK.out _ _ hz17 ?_
    clear HK K
    refine blkStep (fun K HK => ?_)
    simp only [PK]
    go_wp2_with fail
    refine HK.out _ _ ?_
    clear HK K
    refine doneStep (by kernel_rfl) ?_
    go_wp2_with fail
    go_ret
    exact ⟨rfl, (((((((((((((((((((((hz1.trans hx1).trans hz2).trans hx2).trans hz3).trans hx3).trans hz4).trans hx4).trans hz5).trans hx5).trans ((Ext.refl _).drew)).trans hz6).trans hz7).trans hz8).trans hz9).trans hz10).trans hz11).trans hxd).trans hxv).trans ((Ext.refl _).drew)).trans hz16).trans hz17)⟩
end
end Go.Proofs.YtikbeiafobnblaaGreat
