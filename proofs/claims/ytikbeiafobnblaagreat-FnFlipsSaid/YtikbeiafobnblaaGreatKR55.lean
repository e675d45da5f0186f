/- What these laws need: FnFlips: The walk of the law on reversed paths: reversing a path twice yields it. -/
import Derived.Test.YtikbeiafobnblaaGreatKR34
import Derived.Test.YtikbeiafobnblaaGreatKR54
namespace Go.Proofs.YtikbeiafobnblaaGreat
section
open Go.ChangeShapes Go.WideShapes Go.ChangeAt Go.RowKit Go.Deep
set_option maxRecDepth 100000 in
set_option maxHeartbeats 20000000 in
theorem l_FnFlips (code : List Int) (cv : Value) (w : World) (hr : RdS Rep.byte w cv code) (hu : ∀ x ∈ code, U8 x) :
  Calls Tryz.prog 4 #[cv] w fun e w' => e = .returned (.bool true) ∧ Ext w w' := by
 obtain ⟨co, cc, rfl, _⟩ := hr.shape
 by_cases hbig : 1048576 < code.length
 ·
  have hb1 : decide (1048576 < code.length) = true := by simpa using hbig
  have HB1 := Lib.hid hb1; clear hb1
  go_enter Tryz.func4, Tryz.ntmps4
  go_wp2_with fail
  refine (l_big code _ _ hr).mono ?_
  rintro e _ ⟨rfl, rfl⟩
  rw [HB1.out]
  go_wp2_with fail
  go_ret
  exact ⟨rfl, Ext.refl _⟩
 have hb1 : decide (1048576 < code.length) = false := by simpa using hbig
 have hl : code.length ≤ 1048576 := by omega
 have HB1 := Lib.hid hb1; clear hb1 hbig
 go_enter Tryz.func4, Tryz.ntmps4
 go_wp2_with fail
 refine (l_big code _ _ hr).mono ?_
 rintro e _ ⟨rfl, rfl⟩
 rw [HB1.out]
 go_wp2_with fail
 refine (s_DrawPath code _ _ (hr.ext (Ext.refl _)) hu hl).mono ?_
 rintro e w1 ⟨v1, v2, vp, t, p, rfl, TK, PDr, rA, rL, rP, hz1⟩
 obtain ⟨o1, c1, rfl, _⟩ := rA.shape
 obtain ⟨o2, c2, rfl, _⟩ := rL.shape
 obtain ⟨o_p, c_p, rfl, _⟩ := rP.shape
 have hps := PDr.size
 have hpl := PDr.len
 have hph : ∀ x ∈ p.parts, x.hops.length ≤ 5 := fun x hx => (PDr.part x hx).len.2
 have hx1 := ext2 w1 (.cells #[.slice o1 t.ases.length c1, .slice o2 t.links.length c2] 33) (.cells #[.slice o_p p.parts.length c_p] 26)
 have HB1 := Lib.hid (al2 w1 (.cells #[.slice o1 t.ases.length c1, .slice o2 t.links.length c2] 33) (.cells #[.slice o_p p.parts.length c_p] 26))
 have cf1 := blk2 HB1.out.1
 have cf2 := blk1 HB1.out.2
 go_wp2_with fail
 refine (i_ReversePath p _ _ (rP.ext hx1) (by omega)).mono ?_
 rintro e w2 ⟨ur, rfl, OR, hz2⟩
 obtain ⟨fp, hfp⟩ : ∃ q, q = revPath p := ⟨_, rfl⟩
 rw [← hfp] at OR
 have hfs : fp.size ≤ 24 := by rw [hfp, revPath_size]; omega
 have HFP := Lib.hid hfp
 clear hfp
 have rF := Part.ord OR
 clear OR
 obtain ⟨o_f, c_f, rfl, _⟩ := rF.shape
 have hx2 : Ext w2 (w2.alloc (.cells #[.slice o_f fp.parts.length c_f] 26)) := (Ext.refl _).alloc _
 have HB2 := Lib.hid (blk_new w2 (.cells #[.slice o_f fp.parts.length c_f] 26))
 try clear cf1
 try clear cf2
 go_wp2_with fail
 refine (s_DrawReverseKind code _ _ (hr.ext (((hz1.trans hx1).trans hz2).trans hx2)) hu hl).mono ?_
 rintro e w3 ⟨k, rfl, _, _, hz3⟩
 go_wp2_with fail
 refine (s_DrawReversePart code _ _ (hr.ext ((((hz1.trans hx1).trans hz2).trans hx2).trans hz3)) hu hl).mono ?_
 rintro e w4 ⟨vx, x, rfl, hx6, rX, hz4⟩
 obtain ⟨o_x, c_x, rfl, _⟩ := rX.shape
 have hx3 : Ext w4 (w4.alloc (.cells #[.int .i64 x.kind, .int .i64 x.ts, .int .i64 x.beta, .slice o_x x.hops.length c_x] 47)) := (Ext.refl _).alloc _
 have HB3 := Lib.hid (blk_new w4 (.cells #[.int .i64 x.kind, .int .i64 x.ts, .int .i64 x.beta, .slice o_x x.hops.length c_x] 47))
 have cf3 := blk4 HB3.out
 go_wp2_with fail
 refine (s_DrawReversePath code _ _ (hr.ext ((((((hz1.trans hx1).trans hz2).trans hx2).trans hz3).trans hz4).trans hx3)) hu hl).mono ?_
 rintro e w5 ⟨vy, y, rfl, hy4, hy5, RY, hz5⟩
 have rY := Own.rd _ RY
 clear RY
 have hys := pth_size hy4 hy5
 obtain ⟨o_y, c_y, rfl, _⟩ := rY.shape
 have hx4 : Ext w5 (w5.alloc (.cells #[.slice o_y y.parts.length c_y] 26)) := (Ext.refl _).alloc _
 have HB4 := Lib.hid (blk_new w5 (.cells #[.slice o_y y.parts.length c_y] 26))
 try clear cf3
 have cf4 := blk4 (Ext.block (hz5.trans hx4) HB3.out)
 have cf5 := blk1 HB4.out
 go_wp2_with fail
 refine (s_DrawBidirectional code _ _ (hr.ext ((((((((hz1.trans hx1).trans hz2).trans hx2).trans hz3).trans hz4).trans hx3).trans hz5).trans hx4)) hu hl).mono ?_
 rintro e w6 ⟨u1, u2, uq, u, q, nw, rfl, TU, hq4, hq5, _, _, RUA, RUL, RUP, hz6⟩
 have rUA := Own.rd _ RUA
 have rUL := Own.rd _ RUL
 have rUP := Own.rd _ RUP
 clear RUA RUL RUP TU
 have hqs := pth_size hq4 hq5
 obtain ⟨o_u1, c_u1, rfl, _⟩ := rUA.shape
 obtain ⟨o_u2, c_u2, rfl, _⟩ := rUL.shape
 obtain ⟨o_q, c_q, rfl, _⟩ := rUP.shape
 have hx5 := ext2 w6 (.cells #[.slice o_u1 u.ases.length c_u1, .slice o_u2 u.links.length c_u2] 33) (.cells #[.slice o_q q.parts.length c_q] 26)
 have HB5 := Lib.hid (al2 w6 (.cells #[.slice o_u1 u.ases.length c_u1, .slice o_u2 u.links.length c_u2] 33) (.cells #[.slice o_q q.parts.length c_q] 26))
 try clear cf4
 try clear cf5
 have cf6 := blk4 (Ext.block (((hz5.trans hx4).trans hz6).trans hx5) HB3.out)
 have cf7 := blk1 (Ext.block (hz6.trans hx5) HB4.out)
 have cf8 := blk2 HB5.out.1
 have cf9 := blk1 HB5.out.2
 go_wp2_with fail
 refine (s_DrawOppositeEndpoints code _ _ (hr.ext ((((((((((hz1.trans hx1).trans hz2).trans hx2).trans hz3).trans hz4).trans hx3).trans hz5).trans hx4).trans hz6).trans hx5)) hu hl).mono ?_
 rintro e w7 ⟨va, vb, a, b, rfl, ha4, ha5, hb4, hb5, RWA, RWB, hz7⟩
 have rWA := Own.rd _ RWA
 have rWB := Own.rd _ RWB
 clear RWA RWB
 have has := pth_size ha4 ha5
 have hbs := pth_size hb4 hb5
 obtain ⟨o_a, c_a, rfl, _⟩ := rWA.shape
 obtain ⟨o_b, c_b, rfl, _⟩ := rWB.shape
 have hx6 := ext2 w7 (.cells #[.slice o_a a.parts.length c_a] 26) (.cells #[.slice o_b b.parts.length c_b] 26)
 have HB6 := Lib.hid (al2 w7 (.cells #[.slice o_a a.parts.length c_a] 26) (.cells #[.slice o_b b.parts.length c_b] 26))
 try clear cf6
 try clear cf7
 try clear cf8
 try clear cf9
 have cf10 := blk4 (Ext.block (((((hz5.trans hx4).trans hz6).trans hx5).trans hz7).trans hx6) HB3.out)
 have cf11 := blk1 (Ext.block (((hz6.trans hx5).trans hz7).trans hx6) HB4.out)
 have cf12 := blk2 (Ext.block (hz7.trans hx6) HB5.out.1)
 have cf13 := blk1 (Ext.block (hz7.trans hx6) HB5.out.2)
 have cf14 := blk1 HB6.out.1
 have cf15 := blk1 HB6.out.2
 go_wp2_with fail
 refine (s_DrawReverseSteps code _ _ (hr.ext ((((((((((((hz1.trans hx1).trans hz2).trans hx2).trans hz3).trans hz4).trans hx3).trans hz5).trans hx4).trans hz6).trans hx5).trans hz7).trans hx6)) hu hl).mono ?_
 rintro e w8 ⟨vl, l, rfl, hl20, rS, hz8⟩
 obtain ⟨o_l, c_l, rfl, _⟩ := rS.shape
 have hxk : (revKind k != revKind k) = false := by simp
 have hxb : (bidir u q nw != bidir u q nw) = false := by simp
 have hxo : (oppEnds a b != oppEnds a b) = false := by simp
 try clear cf10
 try clear cf11
 try clear cf12
 try clear cf13
 try clear cf14
 try clear cf15
 have cf16 := blk4 (Ext.block ((((((hz5.trans hx4).trans hz6).trans hx5).trans hz7).trans hx6).trans hz8) HB3.out)
 have cf17 := blk1 (Ext.block ((((hz6.trans hx5).trans hz7).trans hx6).trans hz8) HB4.out)
 have cf18 := blk2 (Ext.block ((hz7.trans hx6).trans hz8) HB5.out.1)
 have cf19 := blk1 (Ext.block ((hz7.trans hx6).trans hz8) HB5.out.2)
 have cf20 := blk1 (Ext.block hz8 HB6.out.1)
 have cf21 := blk1 (Ext.block hz8 HB6.out.2)
 go_wp2_with fail
 refine planStep (.blk [0, 2] (.one 1 (.one 3 (.blk [4, 5, 6, 8] (.one 7 (.one 9 (.one 10 (.blk [11, 12, 13, 14, 16] (.one 15 (.one 17 (.one 18 (.blk [19, 20, 21, 22, 23, 24, 26, 27, 28] (.one 25 (.one 29 (.blk [30, 31, 32, 33, 34, 36, 37] (.one 35 (.one 38 (.blk [39, 40, 41, 42, 44] (.one 43 (.one 45 (.one 46 (.blk [47, 48] .done)))))))))))))))))))))) [] (by kernel_rfl) (by as_aux_lemma => kernel_rfl) ?_
 try clear cf16
 try clear cf17
 try clear cf18
 try clear cf19
 try clear cf20
 try clear cf21
 have cf22 := blk4 (Ext.block (((((((hz5.trans hx4).trans hz6).trans hx5).trans hz7).trans hx6).trans hz8).trans ((Ext.refl _).drew)) HB3.out)
 have cf23 := blk1 (Ext.block (((((hz6.trans hx5).trans hz7).trans hx6).trans hz8).trans ((Ext.refl _).drew)) HB4.out)
 have cf24 := blk2 (Ext.block (((hz7.trans hx6).trans hz8).trans ((Ext.refl _).drew)) HB5.out.1)
 have cf25 := blk1 (Ext.block (((hz7.trans hx6).trans hz8).trans ((Ext.refl _).drew)) HB5.out.2)
 have cf26 := blk1 (Ext.block (hz8.trans ((Ext.refl _).drew)) HB6.out.1)
 have cf27 := blk1 (Ext.block (hz8.trans ((Ext.refl _).drew)) HB6.out.2)
 refine blkStep (fun K HK => ?_)
 simp only [PK]
 go_wp2_with fail
 refine HK.out _ _ ?_
 clear HK K
 refine oneStep (fun K HK => ?_)
 simp only [PK]
 go_wp2_with fail
 refine (i_ReverseKind k _).mono ?_
 rintro e w9 ⟨rfl, hz9⟩
 try clear cf22
 try clear cf23
 try clear cf24
 try clear cf25
 try clear cf26
 try clear cf27
 have cf28 := blk4 (Ext.block ((((((((hz5.trans hx4).trans hz6).trans hx5).trans hz7).trans hx6).trans hz8).trans ((Ext.refl _).drew)).trans hz9) HB3.out)
 have cf29 := blk1 (Ext.block ((((((hz6.trans hx5).trans hz7).trans hx6).trans hz8).trans ((Ext.refl _).drew)).trans hz9) HB4.out)
 have cf30 := blk2 (Ext.block ((((hz7.trans hx6).trans hz8).trans ((Ext.refl _).drew)).trans hz9) HB5.out.1)
 have cf31 := blk1 (Ext.block ((((hz7.trans hx6).trans hz8).trans ((Ext.refl _).drew)).trans hz9) HB5.out.2)
 have cf32 := blk1 (Ext.block ((hz8.trans ((Ext.refl _).drew)).trans hz9) HB6.out.1)
 have cf33 := blk1 (Ext.block ((hz8.trans ((Ext.refl _).drew)).trans hz9) HB6.out.2)
 go_wp2_with fail
 refine HK.out _ _ hz9 ?_
 clear HK K
 refine oneStep (fun K HK => ?_)
 simp only [PK]
 go_wp2_with fail
 refine (s_ReverseKind k _).mono ?_
 rintro e w10 ⟨rfl, hz10⟩
 try clear cf28
 try clear cf29
 try clear cf30
 try clear cf31
 try clear cf32
 try clear cf33
 have cf34 := blk4 (Ext.block (((((((((hz5.trans hx4).trans hz6).trans hx5).trans hz7).trans hx6).trans hz8).trans ((Ext.refl _).drew)).trans hz9).trans hz10) HB3.out)
 have cf35 := blk1 (Ext.block (((((((hz6.trans hx5).trans hz7).trans hx6).trans hz8).trans ((Ext.refl _).drew)).trans hz9).trans hz10) HB4.out)
 have cf36 := blk2 (Ext.block (((((hz7.trans hx6).trans hz8).trans ((Ext.refl _).drew)).trans hz9).trans hz10) HB5.out.1)
 have cf37 := blk1 (Ext.block (((((hz7.trans hx6).trans hz8).trans ((Ext.refl _).drew)).trans hz9).trans hz10) HB5.out.2)
 have cf38 := blk1 (Ext.block (((hz8.trans ((Ext.refl _).drew)).trans hz9).trans hz10) HB6.out.1)
 have cf39 := blk1 (Ext.block (((hz8.trans ((Ext.refl _).drew)).trans hz9).trans hz10) HB6.out.2)
 go_wp2_with fail
 refine HK.out _ _ hz10 ?_
 clear HK K
 refine blkStep (fun K HK => ?_)
 simp only [PK]
 go_wp2_with fail
 refine HK.out _ _ ?_
 clear HK K
 refine oneStep (fun K HK => ?_)
 simp only [PK]
 go_wp2_with fail
 refine (i_ReversePart x _ _ (rX.ext ((((((((((hx3.trans hz5).trans hx4).trans hz6).trans hx5).trans hz7).trans hx6).trans hz8).trans ((Ext.refl _).drew)).trans hz9).trans hz10)) (by unfold Part.size; omega)).mono ?_
 rintro e w11 ⟨w1_, rfl, OX, hz11⟩
 obtain ⟨zx, hz_zx⟩ : ∃ z, z = revPart x := ⟨_, rfl⟩
 rw [← hz_zx] at OX ⊢
 have HZ_zx := Lib.hid hz_zx
 clear hz_zx
 have rp1 := OwnF.rd (hf := Hop.flen) OX
 clear OX
 obtain ⟨q1, d1, rfl, _⟩ := rp1.shape
 try clear cf34
 try clear cf35
 try clear cf36
 try clear cf37
 try clear cf38
 try clear cf39
 have cf40 := blk4 (Ext.block ((((((((((hz5.trans hx4).trans hz6).trans hx5).trans hz7).trans hx6).trans hz8).trans ((Ext.refl _).drew)).trans hz9).trans hz10).trans hz11) HB3.out)
 have cf41 := blk1 (Ext.block ((((((((hz6.trans hx5).trans hz7).trans hx6).trans hz8).trans ((Ext.refl _).drew)).trans hz9).trans hz10).trans hz11) HB4.out)
 have cf42 := blk2 (Ext.block ((((((hz7.trans hx6).trans hz8).trans ((Ext.refl _).drew)).trans hz9).trans hz10).trans hz11) HB5.out.1)
 have cf43 := blk1 (Ext.block ((((((hz7.trans hx6).trans hz8).trans ((Ext.refl _).drew)).trans hz9).trans hz10).trans hz11) HB5.out.2)
 have cf44 := blk1 (Ext.block ((((hz8.trans ((Ext.refl _).drew)).trans hz9).trans hz10).trans hz11) HB6.out.1)
 have cf45 := blk1 (Ext.block ((((hz8.trans ((Ext.refl _).drew)).trans hz9).trans hz10).trans hz11) HB6.out.2)
 go_wp2_with fail
 refine HK.out _ _ hz11 ?_
 clear HK K
 refine oneStep (fun K HK => ?_)
 simp only [PK]
 go_wp2_with fail
 refine (s_ReversePart x _ _ (rX.ext (((((((((((hx3.trans hz5).trans hx4).trans hz6).trans hx5).trans hz7).trans hx6).trans hz8).trans ((Ext.refl _).drew)).trans hz9).trans hz10).trans hz11)) (by unfold Part.size; omega)).mono ?_
 rintro e w12 ⟨w2_, rfl, OX, hz12⟩
 rw [← HZ_zx.out] at OX ⊢
 have rp2 := OwnF.rd (hf := Hop.flen) OX
 clear OX
 obtain ⟨q2, d2, rfl, _⟩ := rp2.shape
 try clear cf40
 try clear cf41
 try clear cf42
 try clear cf43
 try clear cf44
 try clear cf45
 have cf46 := blk4 (Ext.block (((((((((((hz5.trans hx4).trans hz6).trans hx5).trans hz7).trans hx6).trans hz8).trans ((Ext.refl _).drew)).trans hz9).trans hz10).trans hz11).trans hz12) HB3.out)
 have cf47 := blk1 (Ext.block (((((((((hz6.trans hx5).trans hz7).trans hx6).trans hz8).trans ((Ext.refl _).drew)).trans hz9).trans hz10).trans hz11).trans hz12) HB4.out)
 have cf48 := blk2 (Ext.block (((((((hz7.trans hx6).trans hz8).trans ((Ext.refl _).drew)).trans hz9).trans hz10).trans hz11).trans hz12) HB5.out.1)
 have cf49 := blk1 (Ext.block (((((((hz7.trans hx6).trans hz8).trans ((Ext.refl _).drew)).trans hz9).trans hz10).trans hz11).trans hz12) HB5.out.2)
 have cf50 := blk1 (Ext.block (((((hz8.trans ((Ext.refl _).drew)).trans hz9).trans hz10).trans hz11).trans hz12) HB6.out.1)
 have cf51 := blk1 (Ext.block (((((hz8.trans ((Ext.refl _).drew)).trans hz9).trans hz10).trans hz11).trans hz12) HB6.out.2)
 go_wp2_with fail
 refine HK.out _ _ hz12 ?_
 clear HK K
 refine oneStep (fun K HK => ?_)
 simp only [PK]
 go_wp2_with fail
 refine (l_samePartT zx _ _ _ (rp1.ext hz12) (rp2.ext (Ext.refl _))).mono ?_
 rintro e w13 ⟨rfl, hz13⟩
 try clear cf46
 try clear cf47
 try clear cf48
 try clear cf49
 try clear cf50
 try clear cf51
 have cf52 := blk4 (Ext.block ((((((((((((hz5.trans hx4).trans hz6).trans hx5).trans hz7).trans hx6).trans hz8).trans ((Ext.refl _).drew)).trans hz9).trans hz10).trans hz11).trans hz12).trans hz13) HB3.out)
 have cf53 := blk1 (Ext.block ((((((((((hz6.trans hx5).trans hz7).trans hx6).trans hz8).trans ((Ext.refl _).drew)).trans hz9).trans hz10).trans hz11).trans hz12).trans hz13) HB4.out)
 have cf54 := blk2 (Ext.block ((((((((hz7.trans hx6).trans hz8).trans ((Ext.refl _).drew)).trans hz9).trans hz10).trans hz11).trans hz12).trans hz13) HB5.out.1)
 have cf55 := blk1 (Ext.block ((((((((hz7.trans hx6).trans hz8).trans ((Ext.refl _).drew)).trans hz9).trans hz10).trans hz11).trans hz12).trans hz13) HB5.out.2)
 have cf56 := blk1 (Ext.block ((((((hz8.trans ((Ext.refl _).drew)).trans hz9).trans hz10).trans hz11).trans hz12).trans hz13) HB6.out.1)
 have cf57 := blk1 (Ext.block ((((((hz8.trans ((Ext.refl _).drew)).trans hz9).trans hz10).trans hz11).trans hz12).trans hz13) HB6.out.2)
 go_wp2_with fail
 refine HK.out _ _ hz13 ?_
 clear HK K
 as_aux_lemma =>
  refine blkStep (fun K HK => ?_)
  simp only [PK]
  go_wp2_with fail
  refine HK.out _ _ ?_
  clear HK K
  refine oneStep (fun K HK => ?_)
  simp only [PK]
  go_wp2_with fail
  refine (i_ReversePath y _ _ (rY.ext (((((((((((hx4.trans hz6).trans hx5).trans hz7).trans hx6).trans hz8).trans ((Ext.refl _).drew)).trans hz9).trans hz10).trans hz11).trans hz12).trans hz13)) (by omega)).mono ?_
  rintro e w14 ⟨w1_, rfl, OX, hz14⟩
  obtain ⟨zy, hzy⟩ : ∃ z, z = revPath y := ⟨_, rfl⟩
  rw [← hzy] at OX
  have hzl : zy.parts.length ≤ 1048576 := by rw [hzy]; have h1 := rev_len4 hy4; omega
  have HZY := Lib.hid hzy
  clear hzy
  have ry1 := Part.ord OX
  clear OX
  obtain ⟨q3, d3, rfl, _⟩ := ry1.shape
  try clear cf52
  try clear cf53
  try clear cf54
  try clear cf55
  try clear cf56
  try clear cf57
  have cf58 := blk4 (Ext.block (((((((((((((hz5.trans hx4).trans hz6).trans hx5).trans hz7).trans hx6).trans hz8).trans ((Ext.refl _).drew)).trans hz9).trans hz10).trans hz11).trans hz12).trans hz13).trans hz14) HB3.out)
  have cf59 := blk1 (Ext.block (((((((((((hz6.trans hx5).trans hz7).trans hx6).trans hz8).trans ((Ext.refl _).drew)).trans hz9).trans hz10).trans hz11).trans hz12).trans hz13).trans hz14) HB4.out)
  have cf60 := blk2 (Ext.block (((((((((hz7.trans hx6).trans hz8).trans ((Ext.refl _).drew)).trans hz9).trans hz10).trans hz11).trans hz12).trans hz13).trans hz14) HB5.out.1)
  have cf61 := blk1 (Ext.block (((((((((hz7.trans hx6).trans hz8).trans ((Ext.refl _).drew)).trans hz9).trans hz10).trans hz11).trans hz12).trans hz13).trans hz14) HB5.out.2)
  have cf62 := blk1 (Ext.block (((((((hz8.trans ((Ext.refl _).drew)).trans hz9).trans hz10).trans hz11).trans hz12).trans hz13).trans hz14) HB6.out.1)
  have cf63 := blk1 (Ext.block (((((((hz8.trans ((Ext.refl _).drew)).trans hz9).trans hz10).trans hz11).trans hz12).trans hz13).trans hz14) HB6.out.2)
  go_wp2_with fail
  refine HK.out _ _ hz14 ?_
  clear HK K
  refine oneStep (fun K HK => ?_)
  simp only [PK]
  go_wp2_with fail
  refine (s_ReversePath y _ _ (rY.ext ((((((((((((hx4.trans hz6).trans hx5).trans hz7).trans hx6).trans hz8).trans ((Ext.refl _).drew)).trans hz9).trans hz10).trans hz11).trans hz12).trans hz13).trans hz14)) (by omega)).mono ?_
  rintro e w15 ⟨w2_, rfl, OX, hz15⟩
  rw [← HZY.out] at OX
  have ry2 := Part.ord OX
  clear OX
  obtain ⟨q4, d4, rfl, _⟩ := ry2.shape
  try clear cf58
  try clear cf59
  try clear cf60
  try clear cf61
  try clear cf62
  try clear cf63
  have cf64 := blk4 (Ext.block ((((((((((((((hz5.trans hx4).trans hz6).trans hx5).trans hz7).trans hx6).trans hz8).trans ((Ext.refl _).drew)).trans hz9).trans hz10).trans hz11).trans hz12).trans hz13).trans hz14).trans hz15) HB3.out)
  have cf65 := blk1 (Ext.block ((((((((((((hz6.trans hx5).trans hz7).trans hx6).trans hz8).trans ((Ext.refl _).drew)).trans hz9).trans hz10).trans hz11).trans hz12).trans hz13).trans hz14).trans hz15) HB4.out)
  have cf66 := blk2 (Ext.block ((((((((((hz7.trans hx6).trans hz8).trans ((Ext.refl _).drew)).trans hz9).trans hz10).trans hz11).trans hz12).trans hz13).trans hz14).trans hz15) HB5.out.1)
  have cf67 := blk1 (Ext.block ((((((((((hz7.trans hx6).trans hz8).trans ((Ext.refl _).drew)).trans hz9).trans hz10).trans hz11).trans hz12).trans hz13).trans hz14).trans hz15) HB5.out.2)
  have cf68 := blk1 (Ext.block ((((((((hz8.trans ((Ext.refl _).drew)).trans hz9).trans hz10).trans hz11).trans hz12).trans hz13).trans hz14).trans hz15) HB6.out.1)
  have cf69 := blk1 (Ext.block ((((((((hz8.trans ((Ext.refl _).drew)).trans hz9).trans hz10).trans hz11).trans hz12).trans hz13).trans hz14).trans hz15) HB6.out.2)
  go_wp2_with fail
  refine HK.out _ _ hz15 ?_
  clear HK K
  refine oneStep (fun K HK => ?_)
  simp only [PK]
  go_wp2_with fail
  refine (l_samePathT zy _ _ _ (ry1.ext hz15) (ry2.ext (Ext.refl _)) hzl).mono ?_
  rintro e w16 ⟨rfl, hz16⟩
  try clear cf64
  try clear cf65
  try clear cf66
  try clear cf67
  try clear cf68
  try clear cf69
  have cf70 := blk4 (Ext.block (((((((((((((((hz5.trans hx4).trans hz6).trans hx5).trans hz7).trans hx6).trans hz8).trans ((Ext.refl _).drew)).trans hz9).trans hz10).trans hz11).trans hz12).trans hz13).trans hz14).trans hz15).trans hz16) HB3.out)
  have cf71 := blk1 (Ext.block (((((((((((((hz6.trans hx5).trans hz7).trans hx6).trans hz8).trans ((Ext.refl _).drew)).trans hz9).trans hz10).trans hz11).trans hz12).trans hz13).trans hz14).trans hz15).trans hz16) HB4.out)
  have cf72 := blk2 (Ext.block (((((((((((hz7.trans hx6).trans hz8).trans ((Ext.refl _).drew)).trans hz9).trans hz10).trans hz11).trans hz12).trans hz13).trans hz14).trans hz15).trans hz16) HB5.out.1)
  have cf73 := blk1 (Ext.block (((((((((((hz7.trans hx6).trans hz8).trans ((Ext.refl _).drew)).trans hz9).trans hz10).trans hz11).trans hz12).trans hz13).trans hz14).trans hz15).trans hz16) HB5.out.2)
  have cf74 := blk1 (Ext.block (((((((((hz8.trans ((Ext.refl _).drew)).trans hz9).trans hz10).trans hz11).trans hz12).trans hz13).trans hz14).trans hz15).trans hz16) HB6.out.1)
  have cf75 := blk1 (Ext.block (((((((((hz8.trans ((Ext.refl _).drew)).trans hz9).trans hz10).trans hz11).trans hz12).trans hz13).trans hz14).trans hz15).trans hz16) HB6.out.2)
  go_wp2_with fail
  refine HK.out _ _ hz16 ?_
  clear HK K
  as_aux_lemma =>
   refine blkStep (fun K HK => ?_)
   simp only [PK]
   go_wp2_with fail
   refine HK.out _ _ ?_
   clear HK K
   refine oneStep (fun K HK => ?_)
   simp only [PK]
   go_wp2_with fail
   refine (i_Bidirectional u _ _ q _ nw _ (rUA.ext ((((((((((((hx5.trans hz7).trans hx6).trans hz8).trans ((Ext.refl _).drew)).trans hz9).trans hz10).trans hz11).trans hz12).trans hz13).trans hz14).trans hz15).trans hz16)) (rUL.ext ((((((((((((hx5.trans hz7).trans hx6).trans hz8).trans ((Ext.refl _).drew)).trans hz9).trans hz10).trans hz11).trans hz12).trans hz13).trans hz14).trans hz15).trans hz16)) (rUP.ext ((((((((((((hx5.trans hz7).trans hx6).trans hz8).trans ((Ext.refl _).drew)).trans hz9).trans hz10).trans hz11).trans hz12).trans hz13).trans hz14).trans hz15).trans hz16)) (by omega)).mono ?_
   rintro e w17 ⟨rfl, hz17⟩
   try clear cf70
   try clear cf71
   try clear cf72
   try clear cf73
   try clear cf74
   try clear cf75
   have cf76 := blk4 (Ext.block ((((((((((((((((hz5.trans hx4).trans hz6).trans hx5).trans hz7).trans hx6).trans hz8).trans ((Ext.refl _).drew)).trans hz9).trans hz10).trans hz11).trans hz12).trans hz13).trans hz14).trans hz15).trans hz16).trans hz17) HB3.out)
   have cf77 := blk1 (Ext.block ((((((((((((((hz6.trans hx5).trans hz7).trans hx6).trans hz8).trans ((Ext.refl _).drew)).trans hz9).trans hz10).trans hz11).trans hz12).trans hz13).trans hz14).trans hz15).trans hz16).trans hz17) HB4.out)
   have cf78 := blk2 (Ext.block ((((((((((((hz7.trans hx6).trans hz8).trans ((Ext.refl _).drew)).trans hz9).trans hz10).trans hz11).trans hz12).trans hz13).trans hz14).trans hz15).trans hz16).trans hz17) HB5.out.1)
   have cf79 := blk1 (Ext.block ((((((((((((hz7.trans hx6).trans hz8).trans ((Ext.refl _).drew)).trans hz9).trans hz10).trans hz11).trans hz12).trans hz13).trans hz14).trans hz15).trans hz16).trans hz17) HB5.out.2)
   have cf80 := blk1 (Ext.block ((((((((((hz8.trans ((Ext.refl _).drew)).trans hz9).trans hz10).trans hz11).trans hz12).trans hz13).trans hz14).trans hz15).trans hz16).trans hz17) HB6.out.1)
   have cf81 := blk1 (Ext.block ((((((((((hz8.trans ((Ext.refl _).drew)).trans hz9).trans hz10).trans hz11).trans hz12).trans hz13).trans hz14).trans hz15).trans hz16).trans hz17) HB6.out.2)
   go_wp2_with fail
   refine HK.out _ _ hz17 ?_
   clear HK K
   refine oneStep (fun K HK => ?_)
   simp only [PK]
   go_wp2_with fail
   refine (s_Bidirectional u _ _ q _ nw _ (rUA.ext (((((((((((((hx5.trans hz7).trans hx6).trans hz8).trans ((Ext.refl _).drew)).trans hz9).trans hz10).trans hz11).trans hz12).trans hz13).trans hz14).trans hz15).trans hz16).trans hz17)) (rUL.ext (((((((((((((hx5.trans hz7).trans hx6).trans hz8).trans ((Ext.refl _).drew)).trans hz9).trans hz10).trans hz11).trans hz12).trans hz13).trans hz14).trans hz15).trans hz16).trans hz17)) (rUP.ext (((((((((((((hx5.trans hz7).trans hx6).trans hz8).trans ((Ext.refl _).drew)).trans hz9).trans hz10).trans hz11).trans hz12).trans hz13).trans hz14).trans hz15).trans hz16).trans hz17)) (by omega)).mono ?_
   rintro e w18 ⟨rfl, hz18⟩
   try clear cf76
   try clear cf77
   try clear cf78
   try clear cf79
   try clear cf80
   try clear cf81
   have cf82 := blk4 (Ext.block (((((((((((((((((hz5.trans hx4).trans hz6).trans hx5).trans hz7).trans hx6).trans hz8).trans ((Ext.refl _).drew)).trans hz9).trans hz10).trans hz11).trans hz12).trans hz13).trans hz14).trans hz15).trans hz16).trans hz17).trans hz18) HB3.out)
   have cf83 := blk1 (Ext.block (((((((((((((((hz6.trans hx5).trans hz7).trans hx6).trans hz8).trans ((Ext.refl _).drew)).trans hz9).trans hz10).trans hz11).trans hz12).trans hz13).trans hz14).trans hz15).trans hz16).trans hz17).trans hz18) HB4.out)
   have cf84 := blk2 (Ext.block (((((((((((((hz7.trans hx6).trans hz8).trans ((Ext.refl _).drew)).trans hz9).trans hz10).trans hz11).trans hz12).trans hz13).trans hz14).trans hz15).trans hz16).trans hz17).trans hz18) HB5.out.1)
   have cf85 := blk1 (Ext.block (((((((((((((hz7.trans hx6).trans hz8).trans ((Ext.refl _).drew)).trans hz9).trans hz10).trans hz11).trans hz12).trans hz13).trans hz14).trans hz15).trans hz16).trans hz17).trans hz18) HB5.out.2)
   have cf86 := blk1 (Ext.block (((((((((((hz8.trans ((Ext.refl _).drew)).trans hz9).trans hz10).trans hz11).trans hz12).trans hz13).trans hz14).trans hz15).trans hz16).trans hz17).trans hz18) HB6.out.1)
   have cf87 := blk1 (Ext.block (((((((((((hz8.trans ((Ext.refl _).drew)).trans hz9).trans hz10).trans hz11).trans hz12).trans hz13).trans hz14).trans hz15).trans hz16).trans hz17).trans hz18) HB6.out.2)
   go_wp2_with fail
   refine HK.out _ _ hz18 ?_
   clear HK K
   as_aux_lemma =>
    refine blkStep (fun K HK => ?_)
    simp only [PK]
    go_wp2_with fail
    refine HK.out _ _ ?_
    clear HK K
    refine oneStep (fun K HK => ?_)
    simp only [PK]
    go_wp2_with fail
    refine (i_OppositeEndpoints a _ b _ _ (rWA.ext ((((((((((((hx6.trans hz8).trans ((Ext.refl _).drew)).trans hz9).trans hz10).trans hz11).trans hz12).trans hz13).trans hz14).trans hz15).trans hz16).trans hz17).trans hz18)) (rWB.ext ((((((((((((hx6.trans hz8).trans ((Ext.refl _).drew)).trans hz9).trans hz10).trans hz11).trans hz12).trans hz13).trans hz14).trans hz15).trans hz16).trans hz17).trans hz18)) (by omega) (by omega)).mono ?_
    rintro e w19 ⟨rfl, hz19⟩
    try clear cf82
    try clear cf83
    try clear cf84
    try clear cf85
    try clear cf86
    try clear cf87
    have cf88 := blk4 (Ext.block ((((((((((((((((((hz5.trans hx4).trans hz6).trans hx5).trans hz7).trans hx6).trans hz8).trans ((Ext.refl _).drew)).trans hz9).trans hz10).trans hz11).trans hz12).trans hz13).trans hz14).trans hz15).trans hz16).trans hz17).trans hz18).trans hz19) HB3.out)
    have cf89 := blk1 (Ext.block ((((((((((((((((hz6.trans hx5).trans hz7).trans hx6).trans hz8).trans ((Ext.refl _).drew)).trans hz9).trans hz10).trans hz11).trans hz12).trans hz13).trans hz14).trans hz15).trans hz16).trans hz17).trans hz18).trans hz19) HB4.out)
    have cf90 := blk2 (Ext.block ((((((((((((((hz7.trans hx6).trans hz8).trans ((Ext.refl _).drew)).trans hz9).trans hz10).trans hz11).trans hz12).trans hz13).trans hz14).trans hz15).trans hz16).trans hz17).trans hz18).trans hz19) HB5.out.1)
    have cf91 := blk1 (Ext.block ((((((((((((((hz7.trans hx6).trans hz8).trans ((Ext.refl _).drew)).trans hz9).trans hz10).trans hz11).trans hz12).trans hz13).trans hz14).trans hz15).trans hz16).trans hz17).trans hz18).trans hz19) HB5.out.2)
    have cf92 := blk1 (Ext.block ((((((((((((hz8.trans ((Ext.refl _).drew)).trans hz9).trans hz10).trans hz11).trans hz12).trans hz13).trans hz14).trans hz15).trans hz16).trans hz17).trans hz18).trans hz19) HB6.out.1)
    have cf93 := blk1 (Ext.block ((((((((((((hz8.trans ((Ext.refl _).drew)).trans hz9).trans hz10).trans hz11).trans hz12).trans hz13).trans hz14).trans hz15).trans hz16).trans hz17).trans hz18).trans hz19) HB6.out.2)
    go_wp2_with fail
    refine HK.out _ _ hz19 ?_
    clear HK K
    refine oneStep (fun K HK => ?_)
    simp only [PK]
    go_wp2_with fail
    refine (s_OppositeEndpoints a _ b _ _ (rWA.ext (((((((((((((hx6.trans hz8).trans ((Ext.refl _).drew)).trans hz9).trans hz10).trans hz11).trans hz12).trans hz13).trans hz14).trans hz15).trans hz16).trans hz17).trans hz18).trans hz19)) (rWB.ext (((((((((((((hx6.trans hz8).trans ((Ext.refl _).drew)).trans hz9).trans hz10).trans hz11).trans hz12).trans hz13).trans hz14).trans hz15).trans hz16).trans hz17).trans hz18).trans hz19)) (by omega) (by omega)).mono ?_
    rintro e w20 ⟨rfl, hz20⟩
    try clear cf88
    try clear cf89
    try clear cf90
    try clear cf91
    try clear cf92
    try clear cf93
    have cf94 := blk4 (Ext.block (((((((((((((((((((hz5.trans hx4).trans hz6).trans hx5).trans hz7).trans hx6).trans hz8).trans ((Ext.refl _).drew)).trans hz9).trans hz10).trans hz11).trans hz12).trans hz13).trans hz14).trans hz15).trans hz16).trans hz17).trans hz18).trans hz19).trans hz20) HB3.out)
    have cf95 := blk1 (Ext.block (((((((((((((((((hz6.trans hx5).trans hz7).trans hx6).trans hz8).trans ((Ext.refl _).drew)).trans hz9).trans hz10).trans hz11).trans hz12).trans hz13).trans hz14).trans hz15).trans hz16).trans hz17).trans hz18).trans hz19).trans hz20) HB4.out)
    have cf96 := blk2 (Ext.block (((((((((((((((hz7.trans hx6).trans hz8).trans ((Ext.refl _).drew)).trans hz9).trans hz10).trans hz11).trans hz12).trans hz13).trans hz14).trans hz15).trans hz16).trans hz17).trans hz18).trans hz19).trans hz20) HB5.out.1)
    have cf97 := blk1 (Ext.block (((((((((((((((hz7.trans hx6).trans hz8).trans ((Ext.refl _).drew)).trans hz9).trans hz10).trans hz11).trans hz12).trans hz13).trans hz14).trans hz15).trans hz16).trans hz17).trans hz18).trans hz19).trans hz20) HB5.out.2)
    have cf98 := blk1 (Ext.block (((((((((((((hz8.trans ((Ext.refl _).drew)).trans hz9).trans hz10).trans hz11).trans hz12).trans hz13).trans hz14).trans hz15).trans hz16).trans hz17).trans hz18).trans hz19).trans hz20) HB6.out.1)
    have cf99 := blk1 (Ext.block (((((((((((((hz8.trans ((Ext.refl _).drew)).trans hz9).trans hz10).trans hz11).trans hz12).trans hz13).trans hz14).trans hz15).trans hz16).trans hz17).trans hz18).trans hz19).trans hz20) HB6.out.2)
    go_wp2_with fail
    refine HK.out _ _ hz20 ?_
    clear HK K
    refine blkStep (fun K HK => ?_)
    simp only [PK]
    go_wp2_with fail
    refine HK.out _ _ ?_
    clear HK K
    refine oneStep (fun K HK => ?_)
    simp only [PK]
    go_wp2_with fail
    refine (i_ReverseSteps l _ _ (rS.ext ((((((((((((((Ext.refl _).drew).trans hz9).trans hz10).trans hz11).trans hz12).trans hz13).trans hz14).trans hz15).trans hz16).trans hz17).trans hz18).trans hz19).trans hz20)) (by omega)).mono ?_
    rintro e w21 ⟨w1_, rfl, OX, hz21⟩
    have rs1 := OwnF.rd (hf := Step.flen) OX
    clear OX
    obtain ⟨q5, d5, rfl, _⟩ := rs1.shape
    try clear cf94
    try clear cf95
    try clear cf96
    try clear cf97
    try clear cf98
    try clear cf99
    have cf100 := blk4 (Ext.block ((((((((((((((((((((hz5.trans hx4).trans hz6).trans hx5).trans hz7).trans hx6).trans hz8).trans ((Ext.refl _).drew)).trans hz9).trans hz10).trans hz11).trans hz12).trans hz13).trans hz14).trans hz15).trans hz16).trans hz17).trans hz18).trans hz19).trans hz20).trans hz21) HB3.out)
    have cf101 := blk1 (Ext.block ((((((((((((((((((hz6.trans hx5).trans hz7).trans hx6).trans hz8).trans ((Ext.refl _).drew)).trans hz9).trans hz10).trans hz11).trans hz12).trans hz13).trans hz14).trans hz15).trans hz16).trans hz17).trans hz18).trans hz19).trans hz20).trans hz21) HB4.out)
    have cf102 := blk2 (Ext.block ((((((((((((((((hz7.trans hx6).trans hz8).trans ((Ext.refl _).drew)).trans hz9).trans hz10).trans hz11).trans hz12).trans hz13).trans hz14).trans hz15).trans hz16).trans hz17).trans hz18).trans hz19).trans hz20).trans hz21) HB5.out.1)
    have cf103 := blk1 (Ext.block ((((((((((((((((hz7.trans hx6).trans hz8).trans ((Ext.refl _).drew)).trans hz9).trans hz10).trans hz11).trans hz12).trans hz13).trans hz14).trans hz15).trans hz16).trans hz17).trans hz18).trans hz19).trans hz20).trans hz21) HB5.out.2)
    have cf104 := blk1 (Ext.block ((((((((((((((hz8.trans ((Ext.refl _).drew)).trans hz9).trans hz10).trans hz11).trans hz12).trans hz13).trans hz14).trans hz15).trans hz16).trans hz17).trans hz18).trans hz19).trans hz20).trans hz21) HB6.out.1)
    have cf105 := blk1 (Ext.block ((((((((((((((hz8.trans ((Ext.refl _).drew)).trans hz9).trans hz10).trans hz11).trans hz12).trans hz13).trans hz14).trans hz15).trans hz16).trans hz17).trans hz18).trans hz19).trans hz20).trans hz21) HB6.out.2)
    go_wp2_with fail
    refine HK.out _ _ hz21 ?_
    clear HK K
    refine oneStep (fun K HK => ?_)
    simp only [PK]
    go_wp2_with fail
    refine (s_ReverseSteps l _ _ (rS.ext (((((((((((((((Ext.refl _).drew).trans hz9).trans hz10).trans hz11).trans hz12).trans hz13).trans hz14).trans hz15).trans hz16).trans hz17).trans hz18).trans hz19).trans hz20).trans hz21)) (by omega)).mono ?_
    rintro e w22 ⟨w2_, rfl, OX, hz22⟩
    have rs2 := OwnF.rd (hf := Step.flen) OX
    clear OX
    obtain ⟨q6, d6, rfl, _⟩ := rs2.shape
    try clear cf100
    try clear cf101
    try clear cf102
    try clear cf103
    try clear cf104
    try clear cf105
    have cf106 := blk4 (Ext.block (((((((((((((((((((((hz5.trans hx4).trans hz6).trans hx5).trans hz7).trans hx6).trans hz8).trans ((Ext.refl _).drew)).trans hz9).trans hz10).trans hz11).trans hz12).trans hz13).trans hz14).trans hz15).trans hz16).trans hz17).trans hz18).trans hz19).trans hz20).trans hz21).trans hz22) HB3.out)
    have cf107 := blk1 (Ext.block (((((((((((((((((((hz6.trans hx5).trans hz7).trans hx6).trans hz8).trans ((Ext.refl _).drew)).trans hz9).trans hz10).trans hz11).trans hz12).trans hz13).trans hz14).trans hz15).trans hz16).trans hz17).trans hz18).trans hz19).trans hz20).trans hz21).trans hz22) HB4.out)
    have cf108 := blk2 (Ext.block (((((((((((((((((hz7.trans hx6).trans hz8).trans ((Ext.refl _).drew)).trans hz9).trans hz10).trans hz11).trans hz12).trans hz13).trans hz14).trans hz15).trans hz16).trans hz17).trans hz18).trans hz19).trans hz20).trans hz21).trans hz22) HB5.out.1)
    have cf109 := blk1 (Ext.block (((((((((((((((((hz7.trans hx6).trans hz8).trans ((Ext.refl _).drew)).trans hz9).trans hz10).trans hz11).trans hz12).trans hz13).trans hz14).trans hz15).trans hz16).trans hz17).trans hz18).trans hz19).trans hz20).trans hz21).trans hz22) HB5.out.2)
    have cf110 := blk1 (Ext.block (((((((((((((((hz8.trans ((Ext.refl _).drew)).trans hz9).trans hz10).trans hz11).trans hz12).trans hz13).trans hz14).trans hz15).trans hz16).trans hz17).trans hz18).trans hz19).trans hz20).trans hz21).trans hz22) HB6.out.1)
    have cf111 := blk1 (Ext.block (((((((((((((((hz8.trans ((Ext.refl _).drew)).trans hz9).trans hz10).trans hz11).trans hz12).trans hz13).trans hz14).trans hz15).trans hz16).trans hz17).trans hz18).trans hz19).trans hz20).trans hz21).trans hz22) HB6.out.2)
    go_wp2_with fail
    refine HK.out _ _ hz22 ?_
    clear HK K
    refine oneStep (fun K HK => ?_)
    simp only [PK]
    go_wp2_with fail
    refine (l_sameSteps _ _ _ _ _ (rs1.ext hz22) (rs2.ext (Ext.refl _))).mono ?_
    rintro e w23 ⟨rfl, hz23⟩
    rw [decide_eq_true (rfl : revSteps l = revSteps l)]
    try clear cf106
    try clear cf107
    try clear cf108
    try clear cf109
    try clear cf110
    try clear cf111
    have cf112 := blk4 (Ext.block ((((((((((((((((((((((hz5.trans hx4).trans hz6).trans hx5).trans hz7).trans hx6).trans hz8).trans ((Ext.refl _).drew)).trans hz9).trans hz10).trans hz11).trans hz12).trans hz13).trans hz14).trans hz15).trans hz16).trans hz17).trans hz18).trans hz19).trans hz20).trans hz21).trans hz22).trans hz23) HB3.out)
    have cf113 := blk1 (Ext.block ((((((((((((((((((((hz6.trans hx5).trans hz7).trans hx6).trans hz8).trans ((Ext.refl _).drew)).trans hz9).trans hz10).trans hz11).trans hz12).trans hz13).trans hz14).trans hz15).trans hz16).trans hz17).trans hz18).trans hz19).trans hz20).trans hz21).trans hz22).trans hz23) HB4.out)
    have cf114 := blk2 (Ext.block ((((((((((((((((((hz7.trans hx6).trans hz8).trans ((Ext.refl _).drew)).trans hz9).trans hz10).trans hz11).trans hz12).trans hz13).trans hz14).trans hz15).trans hz16).trans hz17).trans hz18).trans hz19).trans hz20).trans hz21).trans hz22).trans hz23) HB5.out.1)
    have cf115 := blk1 (Ext.block ((((((((((((((((((hz7.trans hx6).trans hz8).trans ((Ext.refl _).drew)).trans hz9).trans hz10).trans hz11).trans hz12).trans hz13).trans hz14).trans hz15).trans hz16).trans hz17).trans hz18).trans hz19).trans hz20).trans hz21).trans hz22).trans hz23) HB5.out.2)
    have cf116 := blk1 (Ext.block ((((((((((((((((hz8.trans ((Ext.refl _).drew)).trans hz9).trans hz10).trans hz11).trans hz12).trans hz13).trans hz14).trans hz15).trans hz16).trans hz17).trans hz18).trans hz19).trans hz20).trans hz21).trans hz22).trans hz23) HB6.out.1)
    have cf117 := blk1 (Ext.block ((((((((((((((((hz8.trans ((Ext.refl _).drew)).trans hz9).trans hz10).trans hz11).trans hz12).trans hz13).trans hz14).trans hz15).trans hz16).trans hz17).trans hz18).trans hz19).trans hz20).trans hz21).trans hz22).trans hz23) HB6.out.2)
    go_wp2_with fail
    refine HK.out _ _ hz23 ?_
    clear HK K
    refine blkStep (fun K HK => ?_)
    simp only [PK]
    go_wp2_with fail
    refine HK.out _ _ ?_
    clear HK K
    refine doneStep (by kernel_rfl) ?_
    as_aux_lemma =>
     clear hxk hxb hxo
     have hp0 : p.parts.length = 0 ∨ 0 < p.parts.length := by omega
     rcases hp0 with hp0 | hp0
     ·
      have hp1 : ((p.parts.length : Int) == 0) = true := by simp; exact List.eq_nil_of_length_eq_zero hp0
      clear hp0
      try clear cf112
      try clear cf113
      try clear cf114
      try clear cf115
      try clear cf116
      try clear cf117
      have cf118 := blk2 (Ext.block (((((((((((((((((((((((((((hz2.trans hx2).trans hz3).trans hz4).trans hx3).trans hz5).trans hx4).trans hz6).trans hx5).trans hz7).trans hx6).trans hz8).trans ((Ext.refl _).drew)).trans hz9).trans hz10).trans hz11).trans hz12).trans hz13).trans hz14).trans hz15).trans hz16).trans hz17).trans hz18).trans hz19).trans hz20).trans hz21).trans hz22).trans hz23) HB1.out.1)
      have cf119 := blk1 (Ext.block (((((((((((((((((((((((((((hz2.trans hx2).trans hz3).trans hz4).trans hx3).trans hz5).trans hx4).trans hz6).trans hx5).trans hz7).trans hx6).trans hz8).trans ((Ext.refl _).drew)).trans hz9).trans hz10).trans hz11).trans hz12).trans hz13).trans hz14).trans hz15).trans hz16).trans hz17).trans hz18).trans hz19).trans hz20).trans hz21).trans hz22).trans hz23) HB1.out.2)
      have cf120 := blk1 (Ext.block (((((((((((((((((((((((((hz3.trans hz4).trans hx3).trans hz5).trans hx4).trans hz6).trans hx5).trans hz7).trans hx6).trans hz8).trans ((Ext.refl _).drew)).trans hz9).trans hz10).trans hz11).trans hz12).trans hz13).trans hz14).trans hz15).trans hz16).trans hz17).trans hz18).trans hz19).trans hz20).trans hz21).trans hz22).trans hz23) HB2.out)
      go_wp2_with fail
      go_ret
      exact ⟨rfl, (((((((((((((((((((((((((((((hz1.trans hx1).trans hz2).trans hx2).trans hz3).trans hz4).trans hx3).trans hz5).trans hx4).trans hz6).trans hx5).trans hz7).trans hx6).trans hz8).trans ((Ext.refl _).drew)).trans hz9).trans hz10).trans hz11).trans hz12).trans hz13).trans hz14).trans hz15).trans hz16).trans hz17).trans hz18).trans hz19).trans hz20).trans hz21).trans hz22).trans hz23)⟩
     have hp1 : ((p.parts.length : Int) == 0) = false := by simp; exact List.ne_nil_of_length_pos hp0
     try clear cf112
     try clear cf113
     try clear cf114
     try clear cf115
     try clear cf116
     try clear cf117
     have cf121 := blk2 (Ext.block (((((((((((((((((((((((((((hz2.trans hx2).trans hz3).trans hz4).trans hx3).trans hz5).trans hx4).trans hz6).trans hx5).trans hz7).trans hx6).trans hz8).trans ((Ext.refl _).drew)).trans hz9).trans hz10).trans hz11).trans hz12).trans hz13).trans hz14).trans hz15).trans hz16).trans hz17).trans hz18).trans hz19).trans hz20).trans hz21).trans hz22).trans hz23) HB1.out.1)
     have cf122 := blk1 (Ext.block (((((((((((((((((((((((((((hz2.trans hx2).trans hz3).trans hz4).trans hx3).trans hz5).trans hx4).trans hz6).trans hx5).trans hz7).trans hx6).trans hz8).trans ((Ext.refl _).drew)).trans hz9).trans hz10).trans hz11).trans hz12).trans hz13).trans hz14).trans hz15).trans hz16).trans hz17).trans hz18).trans hz19).trans hz20).trans hz21).trans hz22).trans hz23) HB1.out.2)
     have cf123 := blk1 (Ext.block (((((((((((((((((((((((((hz3.trans hz4).trans hx3).trans hz5).trans hx4).trans hz6).trans hx5).trans hz7).trans hx6).trans hz8).trans ((Ext.refl _).drew)).trans hz9).trans hz10).trans hz11).trans hz12).trans hz13).trans hz14).trans hz15).trans hz16).trans hz17).trans hz18).trans hz19).trans hz20).trans hz21).trans hz22).trans hz23) HB2.out)
     go_wp2_with fail
     refine (i_WellFormedPath t _ _ p _ _ (rA.ext ((((((((((((((((((((((((((((hx1.trans hz2).trans hx2).trans hz3).trans hz4).trans hx3).trans hz5).trans hx4).trans hz6).trans hx5).trans hz7).trans hx6).trans hz8).trans ((Ext.refl _).drew)).trans hz9).trans hz10).trans hz11).trans hz12).trans hz13).trans hz14).trans hz15).trans hz16).trans hz17).trans hz18).trans hz19).trans hz20).trans hz21).trans hz22).trans hz23)) (rL.ext ((((((((((((((((((((((((((((hx1.trans hz2).trans hx2).trans hz3).trans hz4).trans hx3).trans hz5).trans hx4).trans hz6).trans hx5).trans hz7).trans hx6).trans hz8).trans ((Ext.refl _).drew)).trans hz9).trans hz10).trans hz11).trans hz12).trans hz13).trans hz14).trans hz15).trans hz16).trans hz17).trans hz18).trans hz19).trans hz20).trans hz21).trans hz22).trans hz23)) (rP.ext ((((((((((((((((((((((((((((hx1.trans hz2).trans hx2).trans hz3).trans hz4).trans hx3).trans hz5).trans hx4).trans hz6).trans hx5).trans hz7).trans hx6).trans hz8).trans ((Ext.refl _).drew)).trans hz9).trans hz10).trans hz11).trans hz12).trans hz13).trans hz14).trans hz15).trans hz16).trans hz17).trans hz18).trans hz19).trans hz20).trans hz21).trans hz22).trans hz23))).mono ?_
     rintro e w24 ⟨rfl, hz24⟩
     obtain ⟨wf, hwf⟩ : ∃ b, b = wfPath t p := ⟨_, rfl⟩
     rw [← hwf]
     have HWF := Lib.hid hwf
     clear hwf
     cases wf
     case false =>
      try clear cf121
      try clear cf122
      try clear cf123
      have cf124 := blk2 (Ext.block ((((((((((((((((((((((((((((hz2.trans hx2).trans hz3).trans hz4).trans hx3).trans hz5).trans hx4).trans hz6).trans hx5).trans hz7).trans hx6).trans hz8).trans ((Ext.refl _).drew)).trans hz9).trans hz10).trans hz11).trans hz12).trans hz13).trans hz14).trans hz15).trans hz16).trans hz17).trans hz18).trans hz19).trans hz20).trans hz21).trans hz22).trans hz23).trans hz24) HB1.out.1)
      have cf125 := blk1 (Ext.block ((((((((((((((((((((((((((((hz2.trans hx2).trans hz3).trans hz4).trans hx3).trans hz5).trans hx4).trans hz6).trans hx5).trans hz7).trans hx6).trans hz8).trans ((Ext.refl _).drew)).trans hz9).trans hz10).trans hz11).trans hz12).trans hz13).trans hz14).trans hz15).trans hz16).trans hz17).trans hz18).trans hz19).trans hz20).trans hz21).trans hz22).trans hz23).trans hz24) HB1.out.2)
      have cf126 := blk1 (Ext.block ((((((((((((((((((((((((((hz3.trans hz4).trans hx3).trans hz5).trans hx4).trans hz6).trans hx5).trans hz7).trans hx6).trans hz8).trans ((Ext.refl _).drew)).trans hz9).trans hz10).trans hz11).trans hz12).trans hz13).trans hz14).trans hz15).trans hz16).trans hz17).trans hz18).trans hz19).trans hz20).trans hz21).trans hz22).trans hz23).trans hz24) HB2.out)
      go_wp2_with fail
      go_ret
      exact ⟨rfl, ((((((((((((((((((((((((((((((hz1.trans hx1).trans hz2).trans hx2).trans hz3).trans hz4).trans hx3).trans hz5).trans hx4).trans hz6).trans hx5).trans hz7).trans hx6).trans hz8).trans ((Ext.refl _).drew)).trans hz9).trans hz10).trans hz11).trans hz12).trans hz13).trans hz14).trans hz15).trans hz16).trans hz17).trans hz18).trans hz19).trans hz20).trans hz21).trans hz22).trans hz23).trans hz24)⟩
     case true =>
      have FL := flips TK PDr HWF.out.symm
      have HRR : Hid (revPath fp = p) := Lib.hid (by rw [HFP.out]; exact (PDr.rev TK).2)
      have HVF : Hid (verPath t fp = true) := Lib.hid (by rw [HFP.out]; exact (PDr.rev TK).1.ver TK)
      have HOE : Hid (oppEnds p fp = true) := Lib.hid (by rw [HFP.out]; exact FL.2.1)
      have hue : (usable t p 50 == usable t fp 50) = true := by rw [HFP.out, usable_same TK PDr]; simp
      have hsl := steps_len (p := p) (by omega) hph
      obtain ⟨L1, hL1⟩ : ∃ l, l = pathSteps p.parts := ⟨_, rfl⟩
      obtain ⟨L2, hL2⟩ : ∃ l, l = pathSteps fp.parts := ⟨_, rfl⟩
      have hst : decide (L2 = revSteps L1) = true := decide_eq_true (by rw [hL1, hL2, HFP.out]; exact FL.1)
      rw [← hL1] at hsl
      have HL1 := Lib.hid hL1
      have HL2 := Lib.hid hL2
      have HST := Lib.hid hst
      clear FL hL1 hL2 hst
      try clear cf121
      try clear cf122
      try clear cf123
      have cf127 := blk2 (Ext.block ((((((((((((((((((((((((((((hz2.trans hx2).trans hz3).trans hz4).trans hx3).trans hz5).trans hx4).trans hz6).trans hx5).trans hz7).trans hx6).trans hz8).trans ((Ext.refl _).drew)).trans hz9).trans hz10).trans hz11).trans hz12).trans hz13).trans hz14).trans hz15).trans hz16).trans hz17).trans hz18).trans hz19).trans hz20).trans hz21).trans hz22).trans hz23).trans hz24) HB1.out.1)
      have cf128 := blk1 (Ext.block ((((((((((((((((((((((((((((hz2.trans hx2).trans hz3).trans hz4).trans hx3).trans hz5).trans hx4).trans hz6).trans hx5).trans hz7).trans hx6).trans hz8).trans ((Ext.refl _).drew)).trans hz9).trans hz10).trans hz11).trans hz12).trans hz13).trans hz14).trans hz15).trans hz16).trans hz17).trans hz18).trans hz19).trans hz20).trans hz21).trans hz22).trans hz23).trans hz24) HB1.out.2)
      have cf129 := blk1 (Ext.block ((((((((((((((((((((((((((hz3.trans hz4).trans hx3).trans hz5).trans hx4).trans hz6).trans hx5).trans hz7).trans hx6).trans hz8).trans ((Ext.refl _).drew)).trans hz9).trans hz10).trans hz11).trans hz12).trans hz13).trans hz14).trans hz15).trans hz16).trans hz17).trans hz18).trans hz19).trans hz20).trans hz21).trans hz22).trans hz23).trans hz24) HB2.out)
      go_wp2_with fail
      refine planStep (.blk [0, 2] (.one 1 (.one 3 (.blk [4, 5, 7] (.one 6 (.one 8 (.one 9 (.one 10 (.blk [11, 12, 13, 14] (.one 15 (.blk [16, 17, 18, 19, 21, 22] (.one 20 (.one 23 (.blk [24, 25, 26, 27, 28] (.one 29 (.blk [30, 31] .done)))))))))))))))) [] (by kernel_rfl) (by as_aux_lemma => kernel_rfl) ?_
      try clear cf127
      try clear cf128
      try clear cf129
      have cf130 := blk2 (Ext.block (((((((((((((((((((((((((((((hz2.trans hx2).trans hz3).trans hz4).trans hx3).trans hz5).trans hx4).trans hz6).trans hx5).trans hz7).trans hx6).trans hz8).trans ((Ext.refl _).drew)).trans hz9).trans hz10).trans hz11).trans hz12).trans hz13).trans hz14).trans hz15).trans hz16).trans hz17).trans hz18).trans hz19).trans hz20).trans hz21).trans hz22).trans hz23).trans hz24).trans ((Ext.refl _).drew)) HB1.out.1)
      have cf131 := blk1 (Ext.block (((((((((((((((((((((((((((((hz2.trans hx2).trans hz3).trans hz4).trans hx3).trans hz5).trans hx4).trans hz6).trans hx5).trans hz7).trans hx6).trans hz8).trans ((Ext.refl _).drew)).trans hz9).trans hz10).trans hz11).trans hz12).trans hz13).trans hz14).trans hz15).trans hz16).trans hz17).trans hz18).trans hz19).trans hz20).trans hz21).trans hz22).trans hz23).trans hz24).trans ((Ext.refl _).drew)) HB1.out.2)
      have cf132 := blk1 (Ext.block (((((((((((((((((((((((((((hz3.trans hz4).trans hx3).trans hz5).trans hx4).trans hz6).trans hx5).trans hz7).trans hx6).trans hz8).trans ((Ext.refl _).drew)).trans hz9).trans hz10).trans hz11).trans hz12).trans hz13).trans hz14).trans hz15).trans hz16).trans hz17).trans hz18).trans hz19).trans hz20).trans hz21).trans hz22).trans hz23).trans hz24).trans ((Ext.refl _).drew)) HB2.out)
      refine blkStep (fun K HK => ?_)
      simp only [PK]
      go_wp2_with fail
      refine HK.out _ _ ?_
      clear HK K
      refine oneStep (fun K HK => ?_)
      simp only [PK]
      go_wp2_with fail
      refine (i_ReversePath fp _ _ (rF.ext ((((((((((((((((((((((((((((hx2.trans hz3).trans hz4).trans hx3).trans hz5).trans hx4).trans hz6).trans hx5).trans hz7).trans hx6).trans hz8).trans ((Ext.refl _).drew)).trans hz9).trans hz10).trans hz11).trans hz12).trans hz13).trans hz14).trans hz15).trans hz16).trans hz17).trans hz18).trans hz19).trans hz20).trans hz21).trans hz22).trans hz23).trans hz24).trans ((Ext.refl _).drew))) (by omega)).mono ?_
      rintro e w25 ⟨w1_, rfl, OX, hz25⟩
      rw [HRR.out] at OX
      have rb1 := Part.ord OX
      clear OX
      obtain ⟨e1, g1, rfl, _⟩ := rb1.shape
      try clear cf130
      try clear cf131
      try clear cf132
      have cf133 := blk2 (Ext.block ((((((((((((((((((((((((((((((hz2.trans hx2).trans hz3).trans hz4).trans hx3).trans hz5).trans hx4).trans hz6).trans hx5).trans hz7).trans hx6).trans hz8).trans ((Ext.refl _).drew)).trans hz9).trans hz10).trans hz11).trans hz12).trans hz13).trans hz14).trans hz15).trans hz16).trans hz17).trans hz18).trans hz19).trans hz20).trans hz21).trans hz22).trans hz23).trans hz24).trans ((Ext.refl _).drew)).trans hz25) HB1.out.1)
      have cf134 := blk1 (Ext.block ((((((((((((((((((((((((((((((hz2.trans hx2).trans hz3).trans hz4).trans hx3).trans hz5).trans hx4).trans hz6).trans hx5).trans hz7).trans hx6).trans hz8).trans ((Ext.refl _).drew)).trans hz9).trans hz10).trans hz11).trans hz12).trans hz13).trans hz14).trans hz15).trans hz16).trans hz17).trans hz18).trans hz19).trans hz20).trans hz21).trans hz22).trans hz23).trans hz24).trans ((Ext.refl _).drew)).trans hz25) HB1.out.2)
      have cf135 := blk1 (Ext.block ((((((((((((((((((((((((((((hz3.trans hz4).trans hx3).trans hz5).trans hx4).trans hz6).trans hx5).trans hz7).trans hx6).trans hz8).trans ((Ext.refl _).drew)).trans hz9).trans hz10).trans hz11).trans hz12).trans hz13).trans hz14).trans hz15).trans hz16).trans hz17).trans hz18).trans hz19).trans hz20).trans hz21).trans hz22).trans hz23).trans hz24).trans ((Ext.refl _).drew)).trans hz25) HB2.out)
      go_wp2_with fail
      refine HK.out _ _ hz25 ?_
      clear HK K
      refine oneStep (fun K HK => ?_)
      simp only [PK]
      go_wp2_with fail
      refine (l_samePathT p _ _ _ (rb1.ext (Ext.refl _)) (rP.ext (((((((((((((((((((((((((((((((hx1.trans hz2).trans hx2).trans hz3).trans hz4).trans hx3).trans hz5).trans hx4).trans hz6).trans hx5).trans hz7).trans hx6).trans hz8).trans ((Ext.refl _).drew)).trans hz9).trans hz10).trans hz11).trans hz12).trans hz13).trans hz14).trans hz15).trans hz16).trans hz17).trans hz18).trans hz19).trans hz20).trans hz21).trans hz22).trans hz23).trans hz24).trans ((Ext.refl _).drew)).trans hz25)) (by omega)).mono ?_
      rintro e w26 ⟨rfl, hz26⟩
      try clear cf133
      try clear cf134
      try clear cf135
      have cf136 := blk2 (Ext.block (((((((((((((((((((((((((((((((hz2.trans hx2).trans hz3).trans hz4).trans hx3).trans hz5).trans hx4).trans hz6).trans hx5).trans hz7).trans hx6).trans hz8).trans ((Ext.refl _).drew)).trans hz9).trans hz10).trans hz11).trans hz12).trans hz13).trans hz14).trans hz15).trans hz16).trans hz17).trans hz18).trans hz19).trans hz20).trans hz21).trans hz22).trans hz23).trans hz24).trans ((Ext.refl _).drew)).trans hz25).trans hz26) HB1.out.1)
      have cf137 := blk1 (Ext.block (((((((((((((((((((((((((((((((hz2.trans hx2).trans hz3).trans hz4).trans hx3).trans hz5).trans hx4).trans hz6).trans hx5).trans hz7).trans hx6).trans hz8).trans ((Ext.refl _).drew)).trans hz9).trans hz10).trans hz11).trans hz12).trans hz13).trans hz14).trans hz15).trans hz16).trans hz17).trans hz18).trans hz19).trans hz20).trans hz21).trans hz22).trans hz23).trans hz24).trans ((Ext.refl _).drew)).trans hz25).trans hz26) HB1.out.2)
      have cf138 := blk1 (Ext.block (((((((((((((((((((((((((((((hz3.trans hz4).trans hx3).trans hz5).trans hx4).trans hz6).trans hx5).trans hz7).trans hx6).trans hz8).trans ((Ext.refl _).drew)).trans hz9).trans hz10).trans hz11).trans hz12).trans hz13).trans hz14).trans hz15).trans hz16).trans hz17).trans hz18).trans hz19).trans hz20).trans hz21).trans hz22).trans hz23).trans hz24).trans ((Ext.refl _).drew)).trans hz25).trans hz26) HB2.out)
      go_wp2_with fail
      refine HK.out _ _ hz26 ?_
      clear HK K
      refine blkStep (fun K HK => ?_)
      simp only [PK]
      go_wp2_with fail
      refine HK.out _ _ ?_
      clear HK K
      refine oneStep (fun K HK => ?_)
      simp only [PK]
      go_wp2_with fail
      refine (i_PathSteps fp _ _ (rF.ext ((((((((((((((((((((((((((((((hx2.trans hz3).trans hz4).trans hx3).trans hz5).trans hx4).trans hz6).trans hx5).trans hz7).trans hx6).trans hz8).trans ((Ext.refl _).drew)).trans hz9).trans hz10).trans hz11).trans hz12).trans hz13).trans hz14).trans hz15).trans hz16).trans hz17).trans hz18).trans hz19).trans hz20).trans hz21).trans hz22).trans hz23).trans hz24).trans ((Ext.refl _).drew)).trans hz25).trans hz26)) (by omega)).mono ?_
      rintro e w27 ⟨w1_, rfl, OX, hz27⟩
      rw [← HL2.out] at OX
      have rb2 := OwnF.rd (hf := Step.flen) OX
      clear OX
      obtain ⟨e2, g2, rfl, _⟩ := rb2.shape
      try clear cf136
      try clear cf137
      try clear cf138
      have cf139 := blk2 (Ext.block ((((((((((((((((((((((((((((((((hz2.trans hx2).trans hz3).trans hz4).trans hx3).trans hz5).trans hx4).trans hz6).trans hx5).trans hz7).trans hx6).trans hz8).trans ((Ext.refl _).drew)).trans hz9).trans hz10).trans hz11).trans hz12).trans hz13).trans hz14).trans hz15).trans hz16).trans hz17).trans hz18).trans hz19).trans hz20).trans hz21).trans hz22).trans hz23).trans hz24).trans ((Ext.refl _).drew)).trans hz25).trans hz26).trans hz27) HB1.out.1)
      have cf140 := blk1 (Ext.block ((((((((((((((((((((((((((((((((hz2.trans hx2).trans hz3).trans hz4).trans hx3).trans hz5).trans hx4).trans hz6).trans hx5).trans hz7).trans hx6).trans hz8).trans ((Ext.refl _).drew)).trans hz9).trans hz10).trans hz11).trans hz12).trans hz13).trans hz14).trans hz15).trans hz16).trans hz17).trans hz18).trans hz19).trans hz20).trans hz21).trans hz22).trans hz23).trans hz24).trans ((Ext.refl _).drew)).trans hz25).trans hz26).trans hz27) HB1.out.2)
      have cf141 := blk1 (Ext.block ((((((((((((((((((((((((((((((hz3.trans hz4).trans hx3).trans hz5).trans hx4).trans hz6).trans hx5).trans hz7).trans hx6).trans hz8).trans ((Ext.refl _).drew)).trans hz9).trans hz10).trans hz11).trans hz12).trans hz13).trans hz14).trans hz15).trans hz16).trans hz17).trans hz18).trans hz19).trans hz20).trans hz21).trans hz22).trans hz23).trans hz24).trans ((Ext.refl _).drew)).trans hz25).trans hz26).trans hz27) HB2.out)
      go_wp2_with fail
      refine HK.out _ _ hz27 ?_
      clear HK K
      refine oneStep (fun K HK => ?_)
      simp only [PK]
      go_wp2_with fail
      refine (i_PathSteps p _ _ (rP.ext (((((((((((((((((((((((((((((((((hx1.trans hz2).trans hx2).trans hz3).trans hz4).trans hx3).trans hz5).trans hx4).trans hz6).trans hx5).trans hz7).trans hx6).trans hz8).trans ((Ext.refl _).drew)).trans hz9).trans hz10).trans hz11).trans hz12).trans hz13).trans hz14).trans hz15).trans hz16).trans hz17).trans hz18).trans hz19).trans hz20).trans hz21).trans hz22).trans hz23).trans hz24).trans ((Ext.refl _).drew)).trans hz25).trans hz26).trans hz27)) (by omega)).mono ?_
      rintro e w28 ⟨w1_, rfl, OX, hz28⟩
      rw [← HL1.out] at OX
      have rb3 := OwnF.rd (hf := Step.flen) OX
      clear OX
      obtain ⟨e3, g3, rfl, _⟩ := rb3.shape
      try clear cf139
      try clear cf140
      try clear cf141
      have cf142 := blk2 (Ext.block (((((((((((((((((((((((((((((((((hz2.trans hx2).trans hz3).trans hz4).trans hx3).trans hz5).trans hx4).trans hz6).trans hx5).trans hz7).trans hx6).trans hz8).trans ((Ext.refl _).drew)).trans hz9).trans hz10).trans hz11).trans hz12).trans hz13).trans hz14).trans hz15).trans hz16).trans hz17).trans hz18).trans hz19).trans hz20).trans hz21).trans hz22).trans hz23).trans hz24).trans ((Ext.refl _).drew)).trans hz25).trans hz26).trans hz27).trans hz28) HB1.out.1)
      have cf143 := blk1 (Ext.block (((((((((((((((((((((((((((((((((hz2.trans hx2).trans hz3).trans hz4).trans hx3).trans hz5).trans hx4).trans hz6).trans hx5).trans hz7).trans hx6).trans hz8).trans ((Ext.refl _).drew)).trans hz9).trans hz10).trans hz11).trans hz12).trans hz13).trans hz14).trans hz15).trans hz16).trans hz17).trans hz18).trans hz19).trans hz20).trans hz21).trans hz22).trans hz23).trans hz24).trans ((Ext.refl _).drew)).trans hz25).trans hz26).trans hz27).trans hz28) HB1.out.2)
      have cf144 := blk1 (Ext.block (((((((((((((((((((((((((((((((hz3.trans hz4).trans hx3).trans hz5).trans hx4).trans hz6).trans hx5).trans hz7).trans hx6).trans hz8).trans ((Ext.refl _).drew)).trans hz9).trans hz10).trans hz11).trans hz12).trans hz13).trans hz14).trans hz15).trans hz16).trans hz17).trans hz18).trans hz19).trans hz20).trans hz21).trans hz22).trans hz23).trans hz24).trans ((Ext.refl _).drew)).trans hz25).trans hz26).trans hz27).trans hz28) HB2.out)
      go_wp2_with fail
      refine HK.out _ _ hz28 ?_
      clear HK K
      refine oneStep (fun K HK => ?_)
      simp only [PK]
      go_wp2_with fail
      refine (i_ReverseSteps L1 _ _ (rb3.ext (Ext.refl _)) (by omega)).mono ?_
      rintro e w29 ⟨w1_, rfl, OX, hz29⟩
      have rb4 := OwnF.rd (hf := Step.flen) OX
      clear OX
      obtain ⟨e4, g4, rfl, _⟩ := rb4.shape
      try clear cf142
      try clear cf143
      try clear cf144
      have cf145 := blk2 (Ext.block ((((((((((((((((((((((((((((((((((hz2.trans hx2).trans hz3).trans hz4).trans hx3).trans hz5).trans hx4).trans hz6).trans hx5).trans hz7).trans hx6).trans hz8).trans ((Ext.refl _).drew)).trans hz9).trans hz10).trans hz11).trans hz12).trans hz13).trans hz14).trans hz15).trans hz16).trans hz17).trans hz18).trans hz19).trans hz20).trans hz21).trans hz22).trans hz23).trans hz24).trans ((Ext.refl _).drew)).trans hz25).trans hz26).trans hz27).trans hz28).trans hz29) HB1.out.1)
      have cf146 := blk1 (Ext.block ((((((((((((((((((((((((((((((((((hz2.trans hx2).trans hz3).trans hz4).trans hx3).trans hz5).trans hx4).trans hz6).trans hx5).trans hz7).trans hx6).trans hz8).trans ((Ext.refl _).drew)).trans hz9).trans hz10).trans hz11).trans hz12).trans hz13).trans hz14).trans hz15).trans hz16).trans hz17).trans hz18).trans hz19).trans hz20).trans hz21).trans hz22).trans hz23).trans hz24).trans ((Ext.refl _).drew)).trans hz25).trans hz26).trans hz27).trans hz28).trans hz29) HB1.out.2)
      have cf147 := blk1 (Ext.block ((((((((((((((((((((((((((((((((hz3.trans hz4).trans hx3).trans hz5).trans hx4).trans hz6).trans hx5).trans hz7).trans hx6).trans hz8).trans ((Ext.refl _).drew)).trans hz9).trans hz10).trans hz11).trans hz12).trans hz13).trans hz14).trans hz15).trans hz16).trans hz17).trans hz18).trans hz19).trans hz20).trans hz21).trans hz22).trans hz23).trans hz24).trans ((Ext.refl _).drew)).trans hz25).trans hz26).trans hz27).trans hz28).trans hz29) HB2.out)
      go_wp2_with fail
      refine HK.out _ _ hz29 ?_
      clear HK K
      refine oneStep (fun K HK => ?_)
      simp only [PK]
      go_wp2_with fail
      refine (l_sameSteps L2 _ _ _ _ (rb2.ext (hz28.trans hz29)) (rb4.ext (Ext.refl _))).mono ?_
      rintro e w30 ⟨rfl, hz30⟩
      rw [HST.out]
      try clear cf145
      try clear cf146
      try clear cf147
      have cf148 := blk2 (Ext.block (((((((((((((((((((((((((((((((((((hz2.trans hx2).trans hz3).trans hz4).trans hx3).trans hz5).trans hx4).trans hz6).trans hx5).trans hz7).trans hx6).trans hz8).trans ((Ext.refl _).drew)).trans hz9).trans hz10).trans hz11).trans hz12).trans hz13).trans hz14).trans hz15).trans hz16).trans hz17).trans hz18).trans hz19).trans hz20).trans hz21).trans hz22).trans hz23).trans hz24).trans ((Ext.refl _).drew)).trans hz25).trans hz26).trans hz27).trans hz28).trans hz29).trans hz30) HB1.out.1)
      have cf149 := blk1 (Ext.block (((((((((((((((((((((((((((((((((((hz2.trans hx2).trans hz3).trans hz4).trans hx3).trans hz5).trans hx4).trans hz6).trans hx5).trans hz7).trans hx6).trans hz8).trans ((Ext.refl _).drew)).trans hz9).trans hz10).trans hz11).trans hz12).trans hz13).trans hz14).trans hz15).trans hz16).trans hz17).trans hz18).trans hz19).trans hz20).trans hz21).trans hz22).trans hz23).trans hz24).trans ((Ext.refl _).drew)).trans hz25).trans hz26).trans hz27).trans hz28).trans hz29).trans hz30) HB1.out.2)
      have cf150 := blk1 (Ext.block (((((((((((((((((((((((((((((((((hz3.trans hz4).trans hx3).trans hz5).trans hx4).trans hz6).trans hx5).trans hz7).trans hx6).trans hz8).trans ((Ext.refl _).drew)).trans hz9).trans hz10).trans hz11).trans hz12).trans hz13).trans hz14).trans hz15).trans hz16).trans hz17).trans hz18).trans hz19).trans hz20).trans hz21).trans hz22).trans hz23).trans hz24).trans ((Ext.refl _).drew)).trans hz25).trans hz26).trans hz27).trans hz28).trans hz29).trans hz30) HB2.out)
      go_wp2_with fail
      refine HK.out _ _ hz30 ?_
      clear HK K
      as_aux_lemma =>
       refine blkStep (fun K HK => ?_)
       simp only [PK]
       go_wp2_with fail
       refine HK.out _ _ ?_
       clear HK K
       refine oneStep (fun K HK => ?_)
       simp only [PK]
       go_wp2_with fail
       refine (i_OppositeEndpoints p _ fp _ _ (rP.ext ((((((((((((((((((((((((((((((((((((hx1.trans hz2).trans hx2).trans hz3).trans hz4).trans hx3).trans hz5).trans hx4).trans hz6).trans hx5).trans hz7).trans hx6).trans hz8).trans ((Ext.refl _).drew)).trans hz9).trans hz10).trans hz11).trans hz12).trans hz13).trans hz14).trans hz15).trans hz16).trans hz17).trans hz18).trans hz19).trans hz20).trans hz21).trans hz22).trans hz23).trans hz24).trans ((Ext.refl _).drew)).trans hz25).trans hz26).trans hz27).trans hz28).trans hz29).trans hz30)) (rF.ext ((((((((((((((((((((((((((((((((((hx2.trans hz3).trans hz4).trans hx3).trans hz5).trans hx4).trans hz6).trans hx5).trans hz7).trans hx6).trans hz8).trans ((Ext.refl _).drew)).trans hz9).trans hz10).trans hz11).trans hz12).trans hz13).trans hz14).trans hz15).trans hz16).trans hz17).trans hz18).trans hz19).trans hz20).trans hz21).trans hz22).trans hz23).trans hz24).trans ((Ext.refl _).drew)).trans hz25).trans hz26).trans hz27).trans hz28).trans hz29).trans hz30)) (by omega) (by omega)).mono ?_
       rintro e w31 ⟨rfl, hz31⟩
       rw [HOE.out]
       try clear cf148
       try clear cf149
       try clear cf150
       have cf151 := blk2 (Ext.block ((((((((((((((((((((((((((((((((((((hz2.trans hx2).trans hz3).trans hz4).trans hx3).trans hz5).trans hx4).trans hz6).trans hx5).trans hz7).trans hx6).trans hz8).trans ((Ext.refl _).drew)).trans hz9).trans hz10).trans hz11).trans hz12).trans hz13).trans hz14).trans hz15).trans hz16).trans hz17).trans hz18).trans hz19).trans hz20).trans hz21).trans hz22).trans hz23).trans hz24).trans ((Ext.refl _).drew)).trans hz25).trans hz26).trans hz27).trans hz28).trans hz29).trans hz30).trans hz31) HB1.out.1)
       have cf152 := blk1 (Ext.block ((((((((((((((((((((((((((((((((((((hz2.trans hx2).trans hz3).trans hz4).trans hx3).trans hz5).trans hx4).trans hz6).trans hx5).trans hz7).trans hx6).trans hz8).trans ((Ext.refl _).drew)).trans hz9).trans hz10).trans hz11).trans hz12).trans hz13).trans hz14).trans hz15).trans hz16).trans hz17).trans hz18).trans hz19).trans hz20).trans hz21).trans hz22).trans hz23).trans hz24).trans ((Ext.refl _).drew)).trans hz25).trans hz26).trans hz27).trans hz28).trans hz29).trans hz30).trans hz31) HB1.out.2)
       have cf153 := blk1 (Ext.block ((((((((((((((((((((((((((((((((((hz3.trans hz4).trans hx3).trans hz5).trans hx4).trans hz6).trans hx5).trans hz7).trans hx6).trans hz8).trans ((Ext.refl _).drew)).trans hz9).trans hz10).trans hz11).trans hz12).trans hz13).trans hz14).trans hz15).trans hz16).trans hz17).trans hz18).trans hz19).trans hz20).trans hz21).trans hz22).trans hz23).trans hz24).trans ((Ext.refl _).drew)).trans hz25).trans hz26).trans hz27).trans hz28).trans hz29).trans hz30).trans hz31) HB2.out)
       go_wp2_with fail
       refine HK.out _ _ hz31 ?_
       clear HK K
       refine blkStep (fun K HK => ?_)
       simp only [PK]
       go_wp2_with fail
       refine HK.out _ _ ?_
       clear HK K
       refine oneStep (fun K HK => ?_)
       simp only [PK]
       go_wp2_with fail
       refine (i_PathUsable t _ _ p _ 50 _ (rA.ext (((((((((((((((((((((((((((((((((((((hx1.trans hz2).trans hx2).trans hz3).trans hz4).trans hx3).trans hz5).trans hx4).trans hz6).trans hx5).trans hz7).trans hx6).trans hz8).trans ((Ext.refl _).drew)).trans hz9).trans hz10).trans hz11).trans hz12).trans hz13).trans hz14).trans hz15).trans hz16).trans hz17).trans hz18).trans hz19).trans hz20).trans hz21).trans hz22).trans hz23).trans hz24).trans ((Ext.refl _).drew)).trans hz25).trans hz26).trans hz27).trans hz28).trans hz29).trans hz30).trans hz31)) (rL.ext (((((((((((((((((((((((((((((((((((((hx1.trans hz2).trans hx2).trans hz3).trans hz4).trans hx3).trans hz5).trans hx4).trans hz6).trans hx5).trans hz7).trans hx6).trans hz8).trans ((Ext.refl _).drew)).trans hz9).trans hz10).trans hz11).trans hz12).trans hz13).trans hz14).trans hz15).trans hz16).trans hz17).trans hz18).trans hz19).trans hz20).trans hz21).trans hz22).trans hz23).trans hz24).trans ((Ext.refl _).drew)).trans hz25).trans hz26).trans hz27).trans hz28).trans hz29).trans hz30).trans hz31)) (rP.ext (((((((((((((((((((((((((((((((((((((hx1.trans hz2).trans hx2).trans hz3).trans hz4).trans hx3).trans hz5).trans hx4).trans hz6).trans hx5).trans hz7).trans hx6).trans hz8).trans ((Ext.refl _).drew)).trans hz9).trans hz10).trans hz11).trans hz12).trans hz13).trans hz14).trans hz15).trans hz16).trans hz17).trans hz18).trans hz19).trans hz20).trans hz21).trans hz22).trans hz23).trans hz24).trans ((Ext.refl _).drew)).trans hz25).trans hz26).trans hz27).trans hz28).trans hz29).trans hz30).trans hz31)) (by omega)).mono ?_
       rintro e w32 ⟨rfl, hz32⟩
       try clear cf151
       try clear cf152
       try clear cf153
       have cf154 := blk2 (Ext.block (((((((((((((((((((((((((((((((((((((hz2.trans hx2).trans hz3).trans hz4).trans hx3).trans hz5).trans hx4).trans hz6).trans hx5).trans hz7).trans hx6).trans hz8).trans ((Ext.refl _).drew)).trans hz9).trans hz10).trans hz11).trans hz12).trans hz13).trans hz14).trans hz15).trans hz16).trans hz17).trans hz18).trans hz19).trans hz20).trans hz21).trans hz22).trans hz23).trans hz24).trans ((Ext.refl _).drew)).trans hz25).trans hz26).trans hz27).trans hz28).trans hz29).trans hz30).trans hz31).trans hz32) HB1.out.1)
       have cf155 := blk1 (Ext.block (((((((((((((((((((((((((((((((((((((hz2.trans hx2).trans hz3).trans hz4).trans hx3).trans hz5).trans hx4).trans hz6).trans hx5).trans hz7).trans hx6).trans hz8).trans ((Ext.refl _).drew)).trans hz9).trans hz10).trans hz11).trans hz12).trans hz13).trans hz14).trans hz15).trans hz16).trans hz17).trans hz18).trans hz19).trans hz20).trans hz21).trans hz22).trans hz23).trans hz24).trans ((Ext.refl _).drew)).trans hz25).trans hz26).trans hz27).trans hz28).trans hz29).trans hz30).trans hz31).trans hz32) HB1.out.2)
       have cf156 := blk1 (Ext.block (((((((((((((((((((((((((((((((((((hz3.trans hz4).trans hx3).trans hz5).trans hx4).trans hz6).trans hx5).trans hz7).trans hx6).trans hz8).trans ((Ext.refl _).drew)).trans hz9).trans hz10).trans hz11).trans hz12).trans hz13).trans hz14).trans hz15).trans hz16).trans hz17).trans hz18).trans hz19).trans hz20).trans hz21).trans hz22).trans hz23).trans hz24).trans ((Ext.refl _).drew)).trans hz25).trans hz26).trans hz27).trans hz28).trans hz29).trans hz30).trans hz31).trans hz32) HB2.out)
       go_wp2_with fail
       refine HK.out _ _ hz32 ?_
       clear HK K
       refine oneStep (fun K HK => ?_)
       simp only [PK]
       go_wp2_with fail
       refine (i_PathUsable t _ _ fp _ 50 _ (rA.ext ((((((((((((((((((((((((((((((((((((((hx1.trans hz2).trans hx2).trans hz3).trans hz4).trans hx3).trans hz5).trans hx4).trans hz6).trans hx5).trans hz7).trans hx6).trans hz8).trans ((Ext.refl _).drew)).trans hz9).trans hz10).trans hz11).trans hz12).trans hz13).trans hz14).trans hz15).trans hz16).trans hz17).trans hz18).trans hz19).trans hz20).trans hz21).trans hz22).trans hz23).trans hz24).trans ((Ext.refl _).drew)).trans hz25).trans hz26).trans hz27).trans hz28).trans hz29).trans hz30).trans hz31).trans hz32)) (rL.ext ((((((((((((((((((((((((((((((((((((((hx1.trans hz2).trans hx2).trans hz3).trans hz4).trans hx3).trans hz5).trans hx4).trans hz6).trans hx5).trans hz7).trans hx6).trans hz8).trans ((Ext.refl _).drew)).trans hz9).trans hz10).trans hz11).trans hz12).trans hz13).trans hz14).trans hz15).trans hz16).trans hz17).trans hz18).trans hz19).trans hz20).trans hz21).trans hz22).trans hz23).trans hz24).trans ((Ext.refl _).drew)).trans hz25).trans hz26).trans hz27).trans hz28).trans hz29).trans hz30).trans hz31).trans hz32)) (rF.ext ((((((((((((((((((((((((((((((((((((hx2.trans hz3).trans hz4).trans hx3).trans hz5).trans hx4).trans hz6).trans hx5).trans hz7).trans hx6).trans hz8).trans ((Ext.refl _).drew)).trans hz9).trans hz10).trans hz11).trans hz12).trans hz13).trans hz14).trans hz15).trans hz16).trans hz17).trans hz18).trans hz19).trans hz20).trans hz21).trans hz22).trans hz23).trans hz24).trans ((Ext.refl _).drew)).trans hz25).trans hz26).trans hz27).trans hz28).trans hz29).trans hz30).trans hz31).trans hz32)) (by omega)).mono ?_
       rintro e w33 ⟨rfl, hz33⟩
       try clear cf154
       try clear cf155
       try clear cf156
       have cf157 := blk2 (Ext.block ((((((((((((((((((((((((((((((((((((((hz2.trans hx2).trans hz3).trans hz4).trans hx3).trans hz5).trans hx4).trans hz6).trans hx5).trans hz7).trans hx6).trans hz8).trans ((Ext.refl _).drew)).trans hz9).trans hz10).trans hz11).trans hz12).trans hz13).trans hz14).trans hz15).trans hz16).trans hz17).trans hz18).trans hz19).trans hz20).trans hz21).trans hz22).trans hz23).trans hz24).trans ((Ext.refl _).drew)).trans hz25).trans hz26).trans hz27).trans hz28).trans hz29).trans hz30).trans hz31).trans hz32).trans hz33) HB1.out.1)
       have cf158 := blk1 (Ext.block ((((((((((((((((((((((((((((((((((((((hz2.trans hx2).trans hz3).trans hz4).trans hx3).trans hz5).trans hx4).trans hz6).trans hx5).trans hz7).trans hx6).trans hz8).trans ((Ext.refl _).drew)).trans hz9).trans hz10).trans hz11).trans hz12).trans hz13).trans hz14).trans hz15).trans hz16).trans hz17).trans hz18).trans hz19).trans hz20).trans hz21).trans hz22).trans hz23).trans hz24).trans ((Ext.refl _).drew)).trans hz25).trans hz26).trans hz27).trans hz28).trans hz29).trans hz30).trans hz31).trans hz32).trans hz33) HB1.out.2)
       have cf159 := blk1 (Ext.block ((((((((((((((((((((((((((((((((((((hz3.trans hz4).trans hx3).trans hz5).trans hx4).trans hz6).trans hx5).trans hz7).trans hx6).trans hz8).trans ((Ext.refl _).drew)).trans hz9).trans hz10).trans hz11).trans hz12).trans hz13).trans hz14).trans hz15).trans hz16).trans hz17).trans hz18).trans hz19).trans hz20).trans hz21).trans hz22).trans hz23).trans hz24).trans ((Ext.refl _).drew)).trans hz25).trans hz26).trans hz27).trans hz28).trans hz29).trans hz30).trans hz31).trans hz32).trans hz33) HB2.out)
       go_wp2_with fail
       refine HK.out _ _ hz33 ?_
       clear HK K
       refine blkStep (fun K HK => ?_)
       simp only [PK]
       go_wp2_with fail
       refine HK.out _ _ ?_
       clear HK K
       refine oneStep (fun K HK => ?_)
       simp only [PK]
       go_wp2_with fail
       refine (i_VerifyPath t _ _ fp _ _ (rA.ext (((((((((((((((((((((((((((((((((((((((hx1.trans hz2).trans hx2).trans hz3).trans hz4).trans hx3).trans hz5).trans hx4).trans hz6).trans hx5).trans hz7).trans hx6).trans hz8).trans ((Ext.refl _).drew)).trans hz9).trans hz10).trans hz11).trans hz12).trans hz13).trans hz14).trans hz15).trans hz16).trans hz17).trans hz18).trans hz19).trans hz20).trans hz21).trans hz22).trans hz23).trans hz24).trans ((Ext.refl _).drew)).trans hz25).trans hz26).trans hz27).trans hz28).trans hz29).trans hz30).trans hz31).trans hz32).trans hz33)) (rF.ext (((((((((((((((((((((((((((((((((((((hx2.trans hz3).trans hz4).trans hx3).trans hz5).trans hx4).trans hz6).trans hx5).trans hz7).trans hx6).trans hz8).trans ((Ext.refl _).drew)).trans hz9).trans hz10).trans hz11).trans hz12).trans hz13).trans hz14).trans hz15).trans hz16).trans hz17).trans hz18).trans hz19).trans hz20).trans hz21).trans hz22).trans hz23).trans hz24).trans ((Ext.refl _).drew)).trans hz25).trans hz26).trans hz27).trans hz28).trans hz29).trans hz30).trans hz31).trans hz32).trans hz33))).mono ?_
       rintro e w34 ⟨rfl, hz34⟩
       rw [HVF.out]
       try clear cf157
       try clear cf158
       try clear cf159
       have cf160 := blk2 (Ext.block (((((((((((((((((((((((((((((((((((((((hz2.trans hx2).trans hz3).trans hz4).trans hx3).trans hz5).trans hx4).trans hz6).trans hx5).trans hz7).trans hx6).trans hz8).trans ((Ext.refl _).drew)).trans hz9).trans hz10).trans hz11).trans hz12).trans hz13).trans hz14).trans hz15).trans hz16).trans hz17).trans hz18).trans hz19).trans hz20).trans hz21).trans hz22).trans hz23).trans hz24).trans ((Ext.refl _).drew)).trans hz25).trans hz26).trans hz27).trans hz28).trans hz29).trans hz30).trans hz31).trans hz32).trans hz33).trans hz34) HB1.out.1)
       have cf161 := blk1 (Ext.block (((((((((((((((((((((((((((((((((((((((hz2.trans hx2).trans hz3).trans hz4).trans hx3).trans hz5).trans hx4).trans hz6).trans hx5).trans hz7).trans hx6).trans hz8).trans ((Ext.refl _).drew)).trans hz9).trans hz10).trans hz11).trans hz12).trans hz13).trans hz14).trans hz15).trans hz16).trans hz17).trans hz18).trans hz19).trans hz20).trans hz21).trans hz22).trans hz23).trans hz24).trans ((Ext.refl _).drew)).trans hz25).trans hz26).trans hz27).trans hz28).trans hz29).trans hz30).trans hz31).trans hz32).trans hz33).trans hz34) HB1.out.2)
       have cf162 := blk1 (Ext.block (((((((((((((((((((((((((((((((((((((hz3.trans hz4).trans hx3).trans hz5).trans hx4).trans hz6).trans hx5).trans hz7).trans hx6).trans hz8).trans ((Ext.refl _).drew)).trans hz9).trans hz10).trans hz11).trans hz12).trans hz13).trans hz14).trans hz15).trans hz16).trans hz17).trans hz18).trans hz19).trans hz20).trans hz21).trans hz22).trans hz23).trans hz24).trans ((Ext.refl _).drew)).trans hz25).trans hz26).trans hz27).trans hz28).trans hz29).trans hz30).trans hz31).trans hz32).trans hz33).trans hz34) HB2.out)
       go_wp2_with fail
       refine HK.out _ _ hz34 ?_
       clear HK K
       refine blkStep (fun K HK => ?_)
       simp only [PK]
       go_wp2_with fail
       refine HK.out _ _ ?_
       clear HK K
       refine doneStep (by kernel_rfl) ?_
       go_wp2_with fail
       go_ret
       exact ⟨rfl, (((((((((((((((((((((((((((((((((((((((((hz1.trans hx1).trans hz2).trans hx2).trans hz3).trans hz4).trans hx3).trans hz5).trans hx4).trans hz6).trans hx5).trans hz7).trans hx6).trans hz8).trans ((Ext.refl _).drew)).trans hz9).trans hz10).trans hz11).trans hz12).trans hz13).trans hz14).trans hz15).trans hz16).trans hz17).trans hz18).trans hz19).trans hz20).trans hz21).trans hz22).trans hz23).trans hz24).trans ((Ext.refl _).drew)).trans hz25).trans hz26).trans hz27).trans hz28).trans hz29).trans hz30).trans hz31).trans hz32).trans hz33).trans hz34)⟩
end
end Go.Proofs.YtikbeiafobnblaaGreat
