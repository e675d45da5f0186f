/- The walk of the law on parts: a part of a valid segment is valid and verifies, in both directions, and from any hop on. No condition. -/
import Derived.Test.YtikbeiafobnblaaKQxW21p
import Derived.Test.YtikbeiafobnblaaKQxW21m
import Derived.Test.YtikbeiafobnblaaKQxPlainJp
import Derived.Test.YtikbeiafobnblaaKQ25
import Derived.Test.YtikbeiafobnblaaKQ52
import Derived.Test.YtikbeiafobnblaaKQ53
import Derived.Test.YtikbeiafobnblaaKQ54
import Derived.Test.YtikbeiafobnblaaKQ55
namespace Go.Proofs.Ytikbeiafobnblaa
open Go.ChangeShapes Go.WideShapes Go.ChangeAt Go.RowKit Go.Deep

theorem l_atE (code : List Int) (v : Value) (i : Int) (w : World) (hr : RdS Rep.byte w v code) (hu : ∀ x ∈ code, U8 x) (h0 : 0 ≤ i) (h1 : i ≤ 1048576) (hl : code.length ≤ 1048576) :
  Calls Try.prog 21 #[v, .int .i64 i] w fun e w' => ∃ r : Int, e = .returned (.int .i64 r) ∧ 0 ≤ r ∧ r ≤ 255 ∧ Ext w w' :=
 (l_at code v i w hr hu h0 h1 hl).mono fun _ _ ⟨r, a1, a2, a3, a4⟩ => ⟨r, a1, a2, a3, a4 ▸ Ext.refl _⟩
theorem i_IsReversedE (k : Int) (w : World) : Calls Try.prog 47 #[.int .i64 k] w fun e w' => e = .returned (.bool (isRev k)) ∧ Ext w w' :=
 (i_IsReversed k w).mono fun _ _ ⟨a, b⟩ => ⟨a, b ▸ Ext.refl _⟩
theorem s_IsReversedE (k : Int) (w : World) : Calls Try.prog 48 #[.int .i64 k] w fun e w' => e = .returned (.bool (isRev k)) ∧ Ext w w' :=
 (s_IsReversed k w).mono fun _ _ ⟨a, b⟩ => ⟨a, b ▸ Ext.refl _⟩
theorem partEq_self (x : Part) : partEq x x = true := by unfold partEq; simp

set_option maxRecDepth 100000 in
set_option maxHeartbeats 40000000 in
theorem l_FnParts (code : List Int) (cv : Value) (w : World) (hr : RdS Rep.byte w cv code) (hu : ∀ x ∈ code, U8 x) :
  Calls Try.prog 5 #[cv] w fun e w' => e = .returned (.bool true) ∧ Ext w w' := by
 obtain ⟨co, cc, rfl, _⟩ := hr.shape
 by_cases hbig : 1048576 < code.length
 ·
  have hb1 : decide (1048576 < code.length) = true := by simpa using hbig
  have HB1 := Lib.hid hb1; clear hb1
  go_enter Try.func5, Try.ntmps5
  go_wp2_with fail
  refine (l_big code _ _ hr).mono ?_
  rintro e _ ⟨rfl, rfl⟩
  rw [HB1.out]
  go_wp2_with fail
  go_ret
  exact ⟨rfl, Ext.refl _⟩
 have hb1 : decide (1048576 < code.length) = false := by simpa using hbig
 have hl : code.length ≤ 1048576 := by omega
 have HB1 := Lib.hid hb1; clear hb1 hbig
 go_enter Try.func5, Try.ntmps5
 go_wp2_with fail
 refine (l_big code _ _ hr).mono ?_
 rintro e _ ⟨rfl, rfl⟩
 rw [HB1.out]
 go_wp2_with fail
 refine (s_DrawSegment code _ _ (hr.ext (Ext.refl _)) hu hl).mono ?_
 rintro e w1 ⟨v1, v2, va, t, kd, a, rfl, TK, SD, OA, OL, OH, hz1⟩
 have rA := OwnF.rd (hf := ASd.flen) OA
 have rL := OwnF.rd (hf := Lnk.flen) OL
 have rH := OwnF.rd (hf := Hop.flen) OH
 clear OA OL OH
 obtain ⟨o_A, c_A, rfl, _⟩ := rA.shape
 obtain ⟨o_L, c_L, rfl, _⟩ := rL.shape
 obtain ⟨o_H, c_H, rfl, _⟩ := rH.shape
 have hla := SD.len
 have hx1 := ext2 w1 (.cells #[.slice o_A t.ases.length c_A, .slice o_L t.links.length c_L] 41) (.cells #[.int .i64 a.ts, .int .i64 a.beta, .slice o_H a.hops.length c_H] 60)
 have HB1 := Lib.hid (al2 w1 (.cells #[.slice o_A t.ases.length c_A, .slice o_L t.links.length c_L] 41) (.cells #[.int .i64 a.ts, .int .i64 a.beta, .slice o_H a.hops.length c_H] 60))
 have cf1 := blk2 HB1.out.1
 have cf2 := blk3 HB1.out.2
 go_wp2_with fail
 refine (s_DrawMakePart code _ _ (hr.ext (hz1.trans hx1)) hu hl).mono ?_
 rintro e w2 ⟨vr, r, kind, from_, rfl, hr5, rR, hz2⟩
 obtain ⟨o_R, c_R, rfl, _⟩ := rR.shape
 have hx2 : Ext w2 (w2.alloc (.cells #[.int .i64 r.ts, .int .i64 r.beta, .slice o_R r.hops.length c_R] 60)) := (Ext.refl _).alloc _
 have HB2 := Lib.hid (blk_new w2 (.cells #[.int .i64 r.ts, .int .i64 r.beta, .slice o_R r.hops.length c_R] 60))
 try clear cf1
 try clear cf2
 have cf3 := blk2 (Ext.block (hz2.trans hx2) HB1.out.1)
 have cf4 := blk3 (Ext.block (hz2.trans hx2) HB1.out.2)
 have cf5 := blk3 HB2.out
 go_wp2_with fail
 refine (s_DrawPartIngress code _ _ (hr.ext (((hz1.trans hx1).trans hz2).trans hx2)) hu hl).mono ?_
 rintro e w3 ⟨vp, p, i, rfl, hp6, rP, hz3⟩
 obtain ⟨o_P, c_P, rfl, _⟩ := rP.shape
 have hx3 : Ext w3 (w3.alloc (.cells #[.int .i64 p.kind, .int .i64 p.ts, .int .i64 p.beta, .slice o_P p.hops.length c_P] 78)) := (Ext.refl _).alloc _
 have HB3 := Lib.hid (blk_new w3 (.cells #[.int .i64 p.kind, .int .i64 p.ts, .int .i64 p.beta, .slice o_P p.hops.length c_P] 78))
 try clear cf3
 try clear cf4
 try clear cf5
 have cf6 := blk2 (Ext.block (((hz2.trans hx2).trans hz3).trans hx3) HB1.out.1)
 have cf7 := blk3 (Ext.block (((hz2.trans hx2).trans hz3).trans hx3) HB1.out.2)
 have cf8 := blk3 (Ext.block (hz3.trans hx3) HB2.out)
 have cf9 := blk4 HB3.out
 go_wp2_with fail
 refine (s_DrawValidPart code _ _ (hr.ext (((((hz1.trans hx1).trans hz2).trans hx2).trans hz3).trans hx3)) hu hl).mono ?_
 rintro e w4 ⟨u1, u2, vq, u, q, rfl, TU, hq6, rU, rV, rQ, hz4⟩
 obtain ⟨o_U, c_U, rfl, _⟩ := rU.shape
 obtain ⟨o_V, c_V, rfl, _⟩ := rV.shape
 obtain ⟨o_Q, c_Q, rfl, _⟩ := rQ.shape
 have hx4 := ext2 w4 (.cells #[.slice o_U u.ases.length c_U, .slice o_V u.links.length c_V] 41) (.cells #[.int .i64 q.kind, .int .i64 q.ts, .int .i64 q.beta, .slice o_Q q.hops.length c_Q] 78)
 have HB4 := Lib.hid (al2 w4 (.cells #[.slice o_U u.ases.length c_U, .slice o_V u.links.length c_V] 41) (.cells #[.int .i64 q.kind, .int .i64 q.ts, .int .i64 q.beta, .slice o_Q q.hops.length c_Q] 78))
 try clear cf6
 try clear cf7
 try clear cf8
 try clear cf9
 have cf10 := blk2 (Ext.block (((((hz2.trans hx2).trans hz3).trans hx3).trans hz4).trans hx4) HB1.out.1)
 have cf11 := blk3 (Ext.block (((((hz2.trans hx2).trans hz3).trans hx3).trans hz4).trans hx4) HB1.out.2)
 have cf12 := blk3 (Ext.block (((hz3.trans hx3).trans hz4).trans hx4) HB2.out)
 have cf13 := blk4 (Ext.block (hz4.trans hx4) HB3.out)
 have cf14 := blk2 HB4.out.1
 have cf15 := blk4 HB4.out.2
 go_wp2_with fail
 refine (s_DrawEqualParts code _ _ (hr.ext (((((((hz1.trans hx1).trans hz2).trans hx2).trans hz3).trans hx3).trans hz4).trans hx4)) hu hl).mono ?_
 rintro e w5 ⟨vx, vy, x, y, rfl, hx6, hy6, rX, rY, hz5⟩
 obtain ⟨o_X, c_X, rfl, _⟩ := rX.shape
 obtain ⟨o_Y, c_Y, rfl, _⟩ := rY.shape
 have hx5 := ext2 w5 (.cells #[.int .i64 x.kind, .int .i64 x.ts, .int .i64 x.beta, .slice o_X x.hops.length c_X] 78) (.cells #[.int .i64 y.kind, .int .i64 y.ts, .int .i64 y.beta, .slice o_Y y.hops.length c_Y] 78)
 have HB5 := Lib.hid (al2 w5 (.cells #[.int .i64 x.kind, .int .i64 x.ts, .int .i64 x.beta, .slice o_X x.hops.length c_X] 78) (.cells #[.int .i64 y.kind, .int .i64 y.ts, .int .i64 y.beta, .slice o_Y y.hops.length c_Y] 78))
 try clear cf10
 try clear cf11
 try clear cf12
 try clear cf13
 try clear cf14
 try clear cf15
 have cf16 := blk2 (Ext.block (((((((hz2.trans hx2).trans hz3).trans hx3).trans hz4).trans hx4).trans hz5).trans hx5) HB1.out.1)
 have cf17 := blk3 (Ext.block (((((((hz2.trans hx2).trans hz3).trans hx3).trans hz4).trans hx4).trans hz5).trans hx5) HB1.out.2)
 have cf18 := blk3 (Ext.block (((((hz3.trans hx3).trans hz4).trans hx4).trans hz5).trans hx5) HB2.out)
 have cf19 := blk4 (Ext.block (((hz4.trans hx4).trans hz5).trans hx5) HB3.out)
 have cf20 := blk2 (Ext.block (hz5.trans hx5) HB4.out.1)
 have cf21 := blk4 (Ext.block (hz5.trans hx5) HB4.out.2)
 have cf22 := blk4 HB5.out.1
 have cf23 := blk4 HB5.out.2
 go_wp2_with fail
 refine (s_DrawIsReversed code _ _ (hr.ext (((((((((hz1.trans hx1).trans hz2).trans hx2).trans hz3).trans hx3).trans hz4).trans hx4).trans hz5).trans hx5)) hu hl).mono ?_
 rintro e w6 ⟨kr, rfl, hz6⟩
 have hne1 : (partIn p i != partIn p i) = false := by simp
 have hne2 : (partEg p i != partEg p i) = false := by simp
 have hne3 : (betaAfter p i != betaAfter p i) = false := by simp
 have hne4 : (validPart u q != validPart u q) = false := by simp
 have hne5 : (verPart u q != verPart u q) = false := by simp
 have hne6 : (partEq x y != partEq x y) = false := by simp
 have hne7 : (isRev kr != isRev kr) = false := by simp
 try clear cf16
 try clear cf17
 try clear cf18
 try clear cf19
 try clear cf20
 try clear cf21
 try clear cf22
 try clear cf23
 have cf24 := blk2 (Ext.block ((((((((hz2.trans hx2).trans hz3).trans hx3).trans hz4).trans hx4).trans hz5).trans hx5).trans hz6) HB1.out.1)
 have cf25 := blk3 (Ext.block ((((((((hz2.trans hx2).trans hz3).trans hx3).trans hz4).trans hx4).trans hz5).trans hx5).trans hz6) HB1.out.2)
 have cf26 := blk3 (Ext.block ((((((hz3.trans hx3).trans hz4).trans hx4).trans hz5).trans hx5).trans hz6) HB2.out)
 have cf27 := blk4 (Ext.block ((((hz4.trans hx4).trans hz5).trans hx5).trans hz6) HB3.out)
 have cf28 := blk2 (Ext.block ((hz5.trans hx5).trans hz6) HB4.out.1)
 have cf29 := blk4 (Ext.block ((hz5.trans hx5).trans hz6) HB4.out.2)
 have cf30 := blk4 (Ext.block hz6 HB5.out.1)
 have cf31 := blk4 (Ext.block hz6 HB5.out.2)
 go_wp2_with fail
 simp only [List.append_eq, List.cons_append, List.nil_append]
 refine planStep (.blk [0, 1, 2, 4, 5, 6] (.one 3 (.one 7 (.one 8 (.blk [9, 10, 11, 12, 14, 15] (.one 13 (.one 16 (.blk [17, 18, 19, 20, 21, 23, 24] (.one 22 (.one 25 (.blk [26, 27, 28, 29, 30, 32, 33] (.one 31 (.one 34 (.blk [35, 36, 37, 38, 39, 41, 42] (.one 40 (.one 43 (.blk [44, 45, 46, 47, 48, 50, 51] (.one 49 (.one 52 (.blk [53, 54, 55, 56, 57, 59, 60] (.one 58 (.one 61 (.blk [62, 63, 64, 65, 67] (.one 66 (.one 68 (.blk [69, 70] .done)))))))))))))))))))))))))) [] (by kernel_rfl) (by as_aux_lemma => kernel_rfl) ?_
 try clear cf24
 try clear cf25
 try clear cf26
 try clear cf27
 try clear cf28
 try clear cf29
 try clear cf30
 try clear cf31
 have cf32 := blk2 (Ext.block (((((((((hz2.trans hx2).trans hz3).trans hx3).trans hz4).trans hx4).trans hz5).trans hx5).trans hz6).trans ((Ext.refl _).drew)) HB1.out.1)
 have cf33 := blk3 (Ext.block (((((((((hz2.trans hx2).trans hz3).trans hx3).trans hz4).trans hx4).trans hz5).trans hx5).trans hz6).trans ((Ext.refl _).drew)) HB1.out.2)
 have cf34 := blk3 (Ext.block (((((((hz3.trans hx3).trans hz4).trans hx4).trans hz5).trans hx5).trans hz6).trans ((Ext.refl _).drew)) HB2.out)
 have cf35 := blk4 (Ext.block (((((hz4.trans hx4).trans hz5).trans hx5).trans hz6).trans ((Ext.refl _).drew)) HB3.out)
 have cf36 := blk2 (Ext.block (((hz5.trans hx5).trans hz6).trans ((Ext.refl _).drew)) HB4.out.1)
 have cf37 := blk4 (Ext.block (((hz5.trans hx5).trans hz6).trans ((Ext.refl _).drew)) HB4.out.2)
 have cf38 := blk4 (Ext.block (hz6.trans ((Ext.refl _).drew)) HB5.out.1)
 have cf39 := blk4 (Ext.block (hz6.trans ((Ext.refl _).drew)) HB5.out.2)
 refine blkStep (fun K HK => ?_)
 simp only [PK]
 go_wp2_with fail
 refine HK.out _ _ ?_
 clear HK K
 refine oneStep (fun K HK => ?_)
 simp only [PK]
 go_wp2_with fail
 refine (i_MakePart r _ kind from_ _ (rR.ext ((((((((hx2.trans hz3).trans hx3).trans hz4).trans hx4).trans hz5).trans hx5).trans hz6).trans ((Ext.refl _).drew))) (by omega)).mono ?_
 rintro e w7 ⟨vm1, rfl, ho, hz7⟩
 obtain ⟨m, hm⟩ : ∃ m, m = makePart r kind from_ := ⟨_, rfl⟩
 rw [← hm] at ho ⊢
 have HM := Lib.hid hm
 clear hm
 have rm1 := OwnF.rd (hf := Hop.flen) ho
 clear ho
 obtain ⟨o_m1, c_m1, rfl, _⟩ := rm1.shape
 try clear cf32
 try clear cf33
 try clear cf34
 try clear cf35
 try clear cf36
 try clear cf37
 try clear cf38
 try clear cf39
 have cf40 := blk2 (Ext.block ((((((((((hz2.trans hx2).trans hz3).trans hx3).trans hz4).trans hx4).trans hz5).trans hx5).trans hz6).trans ((Ext.refl _).drew)).trans hz7) HB1.out.1)
 have cf41 := blk3 (Ext.block ((((((((((hz2.trans hx2).trans hz3).trans hx3).trans hz4).trans hx4).trans hz5).trans hx5).trans hz6).trans ((Ext.refl _).drew)).trans hz7) HB1.out.2)
 have cf42 := blk3 (Ext.block ((((((((hz3.trans hx3).trans hz4).trans hx4).trans hz5).trans hx5).trans hz6).trans ((Ext.refl _).drew)).trans hz7) HB2.out)
 have cf43 := blk4 (Ext.block ((((((hz4.trans hx4).trans hz5).trans hx5).trans hz6).trans ((Ext.refl _).drew)).trans hz7) HB3.out)
 have cf44 := blk2 (Ext.block ((((hz5.trans hx5).trans hz6).trans ((Ext.refl _).drew)).trans hz7) HB4.out.1)
 have cf45 := blk4 (Ext.block ((((hz5.trans hx5).trans hz6).trans ((Ext.refl _).drew)).trans hz7) HB4.out.2)
 have cf46 := blk4 (Ext.block ((hz6.trans ((Ext.refl _).drew)).trans hz7) HB5.out.1)
 have cf47 := blk4 (Ext.block ((hz6.trans ((Ext.refl _).drew)).trans hz7) HB5.out.2)
 go_wp2_with fail
 refine HK.out _ _ hz7 ?_
 clear HK K
 refine oneStep (fun K HK => ?_)
 simp only [PK]
 go_wp2_with fail
 refine (s_MakePart r _ kind from_ _ (rR.ext (((((((((hx2.trans hz3).trans hx3).trans hz4).trans hx4).trans hz5).trans hx5).trans hz6).trans ((Ext.refl _).drew)).trans hz7)) (by omega)).mono ?_
 rintro e w8 ⟨vm2, rfl, ho, hz8⟩
 rw [← HM.out] at ho ⊢
 have rm2 := OwnF.rd (hf := Hop.flen) ho
 clear ho
 obtain ⟨o_m2, c_m2, rfl, _⟩ := rm2.shape
 try clear cf40
 try clear cf41
 try clear cf42
 try clear cf43
 try clear cf44
 try clear cf45
 try clear cf46
 try clear cf47
 have cf48 := blk2 (Ext.block (((((((((((hz2.trans hx2).trans hz3).trans hx3).trans hz4).trans hx4).trans hz5).trans hx5).trans hz6).trans ((Ext.refl _).drew)).trans hz7).trans hz8) HB1.out.1)
 have cf49 := blk3 (Ext.block (((((((((((hz2.trans hx2).trans hz3).trans hx3).trans hz4).trans hx4).trans hz5).trans hx5).trans hz6).trans ((Ext.refl _).drew)).trans hz7).trans hz8) HB1.out.2)
 have cf50 := blk3 (Ext.block (((((((((hz3.trans hx3).trans hz4).trans hx4).trans hz5).trans hx5).trans hz6).trans ((Ext.refl _).drew)).trans hz7).trans hz8) HB2.out)
 have cf51 := blk4 (Ext.block (((((((hz4.trans hx4).trans hz5).trans hx5).trans hz6).trans ((Ext.refl _).drew)).trans hz7).trans hz8) HB3.out)
 have cf52 := blk2 (Ext.block (((((hz5.trans hx5).trans hz6).trans ((Ext.refl _).drew)).trans hz7).trans hz8) HB4.out.1)
 have cf53 := blk4 (Ext.block (((((hz5.trans hx5).trans hz6).trans ((Ext.refl _).drew)).trans hz7).trans hz8) HB4.out.2)
 have cf54 := blk4 (Ext.block (((hz6.trans ((Ext.refl _).drew)).trans hz7).trans hz8) HB5.out.1)
 have cf55 := blk4 (Ext.block (((hz6.trans ((Ext.refl _).drew)).trans hz7).trans hz8) HB5.out.2)
 go_wp2_with fail
 refine HK.out _ _ hz8 ?_
 clear HK K
 refine oneStep (fun K HK => ?_)
 simp only [PK]
 go_wp2_with fail
 refine (l_samePart m m _ _ _ (rm1.ext hz8) (rm2.ext (Ext.refl _))).mono ?_
 rintro e w9 ⟨rfl, hz9⟩
 rw [partEq_self m]
 try clear cf48
 try clear cf49
 try clear cf50
 try clear cf51
 try clear cf52
 try clear cf53
 try clear cf54
 try clear cf55
 have cf56 := blk2 (Ext.block ((((((((((((hz2.trans hx2).trans hz3).trans hx3).trans hz4).trans hx4).trans hz5).trans hx5).trans hz6).trans ((Ext.refl _).drew)).trans hz7).trans hz8).trans hz9) HB1.out.1)
 have cf57 := blk3 (Ext.block ((((((((((((hz2.trans hx2).trans hz3).trans hx3).trans hz4).trans hx4).trans hz5).trans hx5).trans hz6).trans ((Ext.refl _).drew)).trans hz7).trans hz8).trans hz9) HB1.out.2)
 have cf58 := blk3 (Ext.block ((((((((((hz3.trans hx3).trans hz4).trans hx4).trans hz5).trans hx5).trans hz6).trans ((Ext.refl _).drew)).trans hz7).trans hz8).trans hz9) HB2.out)
 have cf59 := blk4 (Ext.block ((((((((hz4.trans hx4).trans hz5).trans hx5).trans hz6).trans ((Ext.refl _).drew)).trans hz7).trans hz8).trans hz9) HB3.out)
 have cf60 := blk2 (Ext.block ((((((hz5.trans hx5).trans hz6).trans ((Ext.refl _).drew)).trans hz7).trans hz8).trans hz9) HB4.out.1)
 have cf61 := blk4 (Ext.block ((((((hz5.trans hx5).trans hz6).trans ((Ext.refl _).drew)).trans hz7).trans hz8).trans hz9) HB4.out.2)
 have cf62 := blk4 (Ext.block ((((hz6.trans ((Ext.refl _).drew)).trans hz7).trans hz8).trans hz9) HB5.out.1)
 have cf63 := blk4 (Ext.block ((((hz6.trans ((Ext.refl _).drew)).trans hz7).trans hz8).trans hz9) HB5.out.2)
 go_wp2_with fail
 refine HK.out _ _ hz9 ?_
 clear HK K
 as_aux_lemma =>
  refine blkStep (fun K HK => ?_)
  simp only [PK]
  go_wp2_with fail
  refine HK.out _ _ ?_
  clear HK K
  refine oneStep (fun K HK => ?_)
  simp only [PK]
  go_wp2_with fail
  refine (i_PartIngress p _ i _ (rP.ext (((((((((hx3.trans hz4).trans hx4).trans hz5).trans hx5).trans hz6).trans ((Ext.refl _).drew)).trans hz7).trans hz8).trans hz9))).mono ?_
  rintro e w10 ⟨rfl, hz10⟩
  try clear cf56
  try clear cf57
  try clear cf58
  try clear cf59
  try clear cf60
  try clear cf61
  try clear cf62
  try clear cf63
  have cf64 := blk2 (Ext.block (((((((((((((hz2.trans hx2).trans hz3).trans hx3).trans hz4).trans hx4).trans hz5).trans hx5).trans hz6).trans ((Ext.refl _).drew)).trans hz7).trans hz8).trans hz9).trans hz10) HB1.out.1)
  have cf65 := blk3 (Ext.block (((((((((((((hz2.trans hx2).trans hz3).trans hx3).trans hz4).trans hx4).trans hz5).trans hx5).trans hz6).trans ((Ext.refl _).drew)).trans hz7).trans hz8).trans hz9).trans hz10) HB1.out.2)
  have cf66 := blk3 (Ext.block (((((((((((hz3.trans hx3).trans hz4).trans hx4).trans hz5).trans hx5).trans hz6).trans ((Ext.refl _).drew)).trans hz7).trans hz8).trans hz9).trans hz10) HB2.out)
  have cf67 := blk4 (Ext.block (((((((((hz4.trans hx4).trans hz5).trans hx5).trans hz6).trans ((Ext.refl _).drew)).trans hz7).trans hz8).trans hz9).trans hz10) HB3.out)
  have cf68 := blk2 (Ext.block (((((((hz5.trans hx5).trans hz6).trans ((Ext.refl _).drew)).trans hz7).trans hz8).trans hz9).trans hz10) HB4.out.1)
  have cf69 := blk4 (Ext.block (((((((hz5.trans hx5).trans hz6).trans ((Ext.refl _).drew)).trans hz7).trans hz8).trans hz9).trans hz10) HB4.out.2)
  have cf70 := blk4 (Ext.block (((((hz6.trans ((Ext.refl _).drew)).trans hz7).trans hz8).trans hz9).trans hz10) HB5.out.1)
  have cf71 := blk4 (Ext.block (((((hz6.trans ((Ext.refl _).drew)).trans hz7).trans hz8).trans hz9).trans hz10) HB5.out.2)
  go_wp2_with fail
  refine HK.out _ _ hz10 ?_
  clear HK K
  refine oneStep (fun K HK => ?_)
  simp only [PK]
  go_wp2_with fail
  refine (s_PartIngress p _ i _ (rP.ext ((((((((((hx3.trans hz4).trans hx4).trans hz5).trans hx5).trans hz6).trans ((Ext.refl _).drew)).trans hz7).trans hz8).trans hz9).trans hz10))).mono ?_
  rintro e w11 ⟨rfl, hz11⟩
  try clear cf64
  try clear cf65
  try clear cf66
  try clear cf67
  try clear cf68
  try clear cf69
  try clear cf70
  try clear cf71
  have cf72 := blk2 (Ext.block ((((((((((((((hz2.trans hx2).trans hz3).trans hx3).trans hz4).trans hx4).trans hz5).trans hx5).trans hz6).trans ((Ext.refl _).drew)).trans hz7).trans hz8).trans hz9).trans hz10).trans hz11) HB1.out.1)
  have cf73 := blk3 (Ext.block ((((((((((((((hz2.trans hx2).trans hz3).trans hx3).trans hz4).trans hx4).trans hz5).trans hx5).trans hz6).trans ((Ext.refl _).drew)).trans hz7).trans hz8).trans hz9).trans hz10).trans hz11) HB1.out.2)
  have cf74 := blk3 (Ext.block ((((((((((((hz3.trans hx3).trans hz4).trans hx4).trans hz5).trans hx5).trans hz6).trans ((Ext.refl _).drew)).trans hz7).trans hz8).trans hz9).trans hz10).trans hz11) HB2.out)
  have cf75 := blk4 (Ext.block ((((((((((hz4.trans hx4).trans hz5).trans hx5).trans hz6).trans ((Ext.refl _).drew)).trans hz7).trans hz8).trans hz9).trans hz10).trans hz11) HB3.out)
  have cf76 := blk2 (Ext.block ((((((((hz5.trans hx5).trans hz6).trans ((Ext.refl _).drew)).trans hz7).trans hz8).trans hz9).trans hz10).trans hz11) HB4.out.1)
  have cf77 := blk4 (Ext.block ((((((((hz5.trans hx5).trans hz6).trans ((Ext.refl _).drew)).trans hz7).trans hz8).trans hz9).trans hz10).trans hz11) HB4.out.2)
  have cf78 := blk4 (Ext.block ((((((hz6.trans ((Ext.refl _).drew)).trans hz7).trans hz8).trans hz9).trans hz10).trans hz11) HB5.out.1)
  have cf79 := blk4 (Ext.block ((((((hz6.trans ((Ext.refl _).drew)).trans hz7).trans hz8).trans hz9).trans hz10).trans hz11) HB5.out.2)
  go_wp2_with fail
  refine HK.out _ _ hz11 ?_
  clear HK K
  refine blkStep (fun K HK => ?_)
  simp only [PK]
  go_wp2_with fail
  refine HK.out _ _ ?_
  clear HK K
  refine oneStep (fun K HK => ?_)
  simp only [PK]
  go_wp2_with fail
  refine (i_PartEgress p _ i _ (rP.ext (((((((((((hx3.trans hz4).trans hx4).trans hz5).trans hx5).trans hz6).trans ((Ext.refl _).drew)).trans hz7).trans hz8).trans hz9).trans hz10).trans hz11))).mono ?_
  rintro e w12 ⟨rfl, hz12⟩
  try clear cf72
  try clear cf73
  try clear cf74
  try clear cf75
  try clear cf76
  try clear cf77
  try clear cf78
  try clear cf79
  have cf80 := blk2 (Ext.block (((((((((((((((hz2.trans hx2).trans hz3).trans hx3).trans hz4).trans hx4).trans hz5).trans hx5).trans hz6).trans ((Ext.refl _).drew)).trans hz7).trans hz8).trans hz9).trans hz10).trans hz11).trans hz12) HB1.out.1)
  have cf81 := blk3 (Ext.block (((((((((((((((hz2.trans hx2).trans hz3).trans hx3).trans hz4).trans hx4).trans hz5).trans hx5).trans hz6).trans ((Ext.refl _).drew)).trans hz7).trans hz8).trans hz9).trans hz10).trans hz11).trans hz12) HB1.out.2)
  have cf82 := blk3 (Ext.block (((((((((((((hz3.trans hx3).trans hz4).trans hx4).trans hz5).trans hx5).trans hz6).trans ((Ext.refl _).drew)).trans hz7).trans hz8).trans hz9).trans hz10).trans hz11).trans hz12) HB2.out)
  have cf83 := blk4 (Ext.block (((((((((((hz4.trans hx4).trans hz5).trans hx5).trans hz6).trans ((Ext.refl _).drew)).trans hz7).trans hz8).trans hz9).trans hz10).trans hz11).trans hz12) HB3.out)
  have cf84 := blk2 (Ext.block (((((((((hz5.trans hx5).trans hz6).trans ((Ext.refl _).drew)).trans hz7).trans hz8).trans hz9).trans hz10).trans hz11).trans hz12) HB4.out.1)
  have cf85 := blk4 (Ext.block (((((((((hz5.trans hx5).trans hz6).trans ((Ext.refl _).drew)).trans hz7).trans hz8).trans hz9).trans hz10).trans hz11).trans hz12) HB4.out.2)
  have cf86 := blk4 (Ext.block (((((((hz6.trans ((Ext.refl _).drew)).trans hz7).trans hz8).trans hz9).trans hz10).trans hz11).trans hz12) HB5.out.1)
  have cf87 := blk4 (Ext.block (((((((hz6.trans ((Ext.refl _).drew)).trans hz7).trans hz8).trans hz9).trans hz10).trans hz11).trans hz12) HB5.out.2)
  go_wp2_with fail
  refine HK.out _ _ hz12 ?_
  clear HK K
  refine oneStep (fun K HK => ?_)
  simp only [PK]
  go_wp2_with fail
  refine (s_PartEgress p _ i _ (rP.ext ((((((((((((hx3.trans hz4).trans hx4).trans hz5).trans hx5).trans hz6).trans ((Ext.refl _).drew)).trans hz7).trans hz8).trans hz9).trans hz10).trans hz11).trans hz12))).mono ?_
  rintro e w13 ⟨rfl, hz13⟩
  try clear cf80
  try clear cf81
  try clear cf82
  try clear cf83
  try clear cf84
  try clear cf85
  try clear cf86
  try clear cf87
  have cf88 := blk2 (Ext.block ((((((((((((((((hz2.trans hx2).trans hz3).trans hx3).trans hz4).trans hx4).trans hz5).trans hx5).trans hz6).trans ((Ext.refl _).drew)).trans hz7).trans hz8).trans hz9).trans hz10).trans hz11).trans hz12).trans hz13) HB1.out.1)
  have cf89 := blk3 (Ext.block ((((((((((((((((hz2.trans hx2).trans hz3).trans hx3).trans hz4).trans hx4).trans hz5).trans hx5).trans hz6).trans ((Ext.refl _).drew)).trans hz7).trans hz8).trans hz9).trans hz10).trans hz11).trans hz12).trans hz13) HB1.out.2)
  have cf90 := blk3 (Ext.block ((((((((((((((hz3.trans hx3).trans hz4).trans hx4).trans hz5).trans hx5).trans hz6).trans ((Ext.refl _).drew)).trans hz7).trans hz8).trans hz9).trans hz10).trans hz11).trans hz12).trans hz13) HB2.out)
  have cf91 := blk4 (Ext.block ((((((((((((hz4.trans hx4).trans hz5).trans hx5).trans hz6).trans ((Ext.refl _).drew)).trans hz7).trans hz8).trans hz9).trans hz10).trans hz11).trans hz12).trans hz13) HB3.out)
  have cf92 := blk2 (Ext.block ((((((((((hz5.trans hx5).trans hz6).trans ((Ext.refl _).drew)).trans hz7).trans hz8).trans hz9).trans hz10).trans hz11).trans hz12).trans hz13) HB4.out.1)
  have cf93 := blk4 (Ext.block ((((((((((hz5.trans hx5).trans hz6).trans ((Ext.refl _).drew)).trans hz7).trans hz8).trans hz9).trans hz10).trans hz11).trans hz12).trans hz13) HB4.out.2)
  have cf94 := blk4 (Ext.block ((((((((hz6.trans ((Ext.refl _).drew)).trans hz7).trans hz8).trans hz9).trans hz10).trans hz11).trans hz12).trans hz13) HB5.out.1)
  have cf95 := blk4 (Ext.block ((((((((hz6.trans ((Ext.refl _).drew)).trans hz7).trans hz8).trans hz9).trans hz10).trans hz11).trans hz12).trans hz13) HB5.out.2)
  go_wp2_with fail
  refine HK.out _ _ hz13 ?_
  clear HK K
  refine blkStep (fun K HK => ?_)
  simp only [PK]
  go_wp2_with fail
  refine HK.out _ _ ?_
  clear HK K
  refine oneStep (fun K HK => ?_)
  simp only [PK]
  go_wp2_with fail
  refine (i_BetaAfter p _ i _ (rP.ext (((((((((((((hx3.trans hz4).trans hx4).trans hz5).trans hx5).trans hz6).trans ((Ext.refl _).drew)).trans hz7).trans hz8).trans hz9).trans hz10).trans hz11).trans hz12).trans hz13))).mono ?_
  rintro e w14 ⟨rfl, hz14⟩
  try clear cf88
  try clear cf89
  try clear cf90
  try clear cf91
  try clear cf92
  try clear cf93
  try clear cf94
  try clear cf95
  have cf96 := blk2 (Ext.block (((((((((((((((((hz2.trans hx2).trans hz3).trans hx3).trans hz4).trans hx4).trans hz5).trans hx5).trans hz6).trans ((Ext.refl _).drew)).trans hz7).trans hz8).trans hz9).trans hz10).trans hz11).trans hz12).trans hz13).trans hz14) HB1.out.1)
  have cf97 := blk3 (Ext.block (((((((((((((((((hz2.trans hx2).trans hz3).trans hx3).trans hz4).trans hx4).trans hz5).trans hx5).trans hz6).trans ((Ext.refl _).drew)).trans hz7).trans hz8).trans hz9).trans hz10).trans hz11).trans hz12).trans hz13).trans hz14) HB1.out.2)
  have cf98 := blk3 (Ext.block (((((((((((((((hz3.trans hx3).trans hz4).trans hx4).trans hz5).trans hx5).trans hz6).trans ((Ext.refl _).drew)).trans hz7).trans hz8).trans hz9).trans hz10).trans hz11).trans hz12).trans hz13).trans hz14) HB2.out)
  have cf99 := blk4 (Ext.block (((((((((((((hz4.trans hx4).trans hz5).trans hx5).trans hz6).trans ((Ext.refl _).drew)).trans hz7).trans hz8).trans hz9).trans hz10).trans hz11).trans hz12).trans hz13).trans hz14) HB3.out)
  have cf100 := blk2 (Ext.block (((((((((((hz5.trans hx5).trans hz6).trans ((Ext.refl _).drew)).trans hz7).trans hz8).trans hz9).trans hz10).trans hz11).trans hz12).trans hz13).trans hz14) HB4.out.1)
  have cf101 := blk4 (Ext.block (((((((((((hz5.trans hx5).trans hz6).trans ((Ext.refl _).drew)).trans hz7).trans hz8).trans hz9).trans hz10).trans hz11).trans hz12).trans hz13).trans hz14) HB4.out.2)
  have cf102 := blk4 (Ext.block (((((((((hz6.trans ((Ext.refl _).drew)).trans hz7).trans hz8).trans hz9).trans hz10).trans hz11).trans hz12).trans hz13).trans hz14) HB5.out.1)
  have cf103 := blk4 (Ext.block (((((((((hz6.trans ((Ext.refl _).drew)).trans hz7).trans hz8).trans hz9).trans hz10).trans hz11).trans hz12).trans hz13).trans hz14) HB5.out.2)
  go_wp2_with fail
  refine HK.out _ _ hz14 ?_
  clear HK K
  refine oneStep (fun K HK => ?_)
  simp only [PK]
  go_wp2_with fail
  refine (s_BetaAfter p _ i _ (rP.ext ((((((((((((((hx3.trans hz4).trans hx4).trans hz5).trans hx5).trans hz6).trans ((Ext.refl _).drew)).trans hz7).trans hz8).trans hz9).trans hz10).trans hz11).trans hz12).trans hz13).trans hz14))).mono ?_
  rintro e w15 ⟨rfl, hz15⟩
  try clear cf96
  try clear cf97
  try clear cf98
  try clear cf99
  try clear cf100
  try clear cf101
  try clear cf102
  try clear cf103
  have cf104 := blk2 (Ext.block ((((((((((((((((((hz2.trans hx2).trans hz3).trans hx3).trans hz4).trans hx4).trans hz5).trans hx5).trans hz6).trans ((Ext.refl _).drew)).trans hz7).trans hz8).trans hz9).trans hz10).trans hz11).trans hz12).trans hz13).trans hz14).trans hz15) HB1.out.1)
  have cf105 := blk3 (Ext.block ((((((((((((((((((hz2.trans hx2).trans hz3).trans hx3).trans hz4).trans hx4).trans hz5).trans hx5).trans hz6).trans ((Ext.refl _).drew)).trans hz7).trans hz8).trans hz9).trans hz10).trans hz11).trans hz12).trans hz13).trans hz14).trans hz15) HB1.out.2)
  have cf106 := blk3 (Ext.block ((((((((((((((((hz3.trans hx3).trans hz4).trans hx4).trans hz5).trans hx5).trans hz6).trans ((Ext.refl _).drew)).trans hz7).trans hz8).trans hz9).trans hz10).trans hz11).trans hz12).trans hz13).trans hz14).trans hz15) HB2.out)
  have cf107 := blk4 (Ext.block ((((((((((((((hz4.trans hx4).trans hz5).trans hx5).trans hz6).trans ((Ext.refl _).drew)).trans hz7).trans hz8).trans hz9).trans hz10).trans hz11).trans hz12).trans hz13).trans hz14).trans hz15) HB3.out)
  have cf108 := blk2 (Ext.block ((((((((((((hz5.trans hx5).trans hz6).trans ((Ext.refl _).drew)).trans hz7).trans hz8).trans hz9).trans hz10).trans hz11).trans hz12).trans hz13).trans hz14).trans hz15) HB4.out.1)
  have cf109 := blk4 (Ext.block ((((((((((((hz5.trans hx5).trans hz6).trans ((Ext.refl _).drew)).trans hz7).trans hz8).trans hz9).trans hz10).trans hz11).trans hz12).trans hz13).trans hz14).trans hz15) HB4.out.2)
  have cf110 := blk4 (Ext.block ((((((((((hz6.trans ((Ext.refl _).drew)).trans hz7).trans hz8).trans hz9).trans hz10).trans hz11).trans hz12).trans hz13).trans hz14).trans hz15) HB5.out.1)
  have cf111 := blk4 (Ext.block ((((((((((hz6.trans ((Ext.refl _).drew)).trans hz7).trans hz8).trans hz9).trans hz10).trans hz11).trans hz12).trans hz13).trans hz14).trans hz15) HB5.out.2)
  go_wp2_with fail
  refine HK.out _ _ hz15 ?_
  clear HK K
  as_aux_lemma =>
   refine blkStep (fun K HK => ?_)
   simp only [PK]
   go_wp2_with fail
   refine HK.out _ _ ?_
   clear HK K
   refine oneStep (fun K HK => ?_)
   simp only [PK]
   go_wp2_with fail
   refine (i_ValidPart u _ _ q _ _ (rU.ext (((((((((((((hx4.trans hz5).trans hx5).trans hz6).trans ((Ext.refl _).drew)).trans hz7).trans hz8).trans hz9).trans hz10).trans hz11).trans hz12).trans hz13).trans hz14).trans hz15)) (rV.ext (((((((((((((hx4.trans hz5).trans hx5).trans hz6).trans ((Ext.refl _).drew)).trans hz7).trans hz8).trans hz9).trans hz10).trans hz11).trans hz12).trans hz13).trans hz14).trans hz15)) (rQ.ext (((((((((((((hx4.trans hz5).trans hx5).trans hz6).trans ((Ext.refl _).drew)).trans hz7).trans hz8).trans hz9).trans hz10).trans hz11).trans hz12).trans hz13).trans hz14).trans hz15))).mono ?_
   rintro e w16 ⟨rfl, hz16⟩
   try clear cf104
   try clear cf105
   try clear cf106
   try clear cf107
   try clear cf108
   try clear cf109
   try clear cf110
   try clear cf111
   have cf112 := blk2 (Ext.block (((((((((((((((((((hz2.trans hx2).trans hz3).trans hx3).trans hz4).trans hx4).trans hz5).trans hx5).trans hz6).trans ((Ext.refl _).drew)).trans hz7).trans hz8).trans hz9).trans hz10).trans hz11).trans hz12).trans hz13).trans hz14).trans hz15).trans hz16) HB1.out.1)
   have cf113 := blk3 (Ext.block (((((((((((((((((((hz2.trans hx2).trans hz3).trans hx3).trans hz4).trans hx4).trans hz5).trans hx5).trans hz6).trans ((Ext.refl _).drew)).trans hz7).trans hz8).trans hz9).trans hz10).trans hz11).trans hz12).trans hz13).trans hz14).trans hz15).trans hz16) HB1.out.2)
   have cf114 := blk3 (Ext.block (((((((((((((((((hz3.trans hx3).trans hz4).trans hx4).trans hz5).trans hx5).trans hz6).trans ((Ext.refl _).drew)).trans hz7).trans hz8).trans hz9).trans hz10).trans hz11).trans hz12).trans hz13).trans hz14).trans hz15).trans hz16) HB2.out)
   have cf115 := blk4 (Ext.block (((((((((((((((hz4.trans hx4).trans hz5).trans hx5).trans hz6).trans ((Ext.refl _).drew)).trans hz7).trans hz8).trans hz9).trans hz10).trans hz11).trans hz12).trans hz13).trans hz14).trans hz15).trans hz16) HB3.out)
   have cf116 := blk2 (Ext.block (((((((((((((hz5.trans hx5).trans hz6).trans ((Ext.refl _).drew)).trans hz7).trans hz8).trans hz9).trans hz10).trans hz11).trans hz12).trans hz13).trans hz14).trans hz15).trans hz16) HB4.out.1)
   have cf117 := blk4 (Ext.block (((((((((((((hz5.trans hx5).trans hz6).trans ((Ext.refl _).drew)).trans hz7).trans hz8).trans hz9).trans hz10).trans hz11).trans hz12).trans hz13).trans hz14).trans hz15).trans hz16) HB4.out.2)
   have cf118 := blk4 (Ext.block (((((((((((hz6.trans ((Ext.refl _).drew)).trans hz7).trans hz8).trans hz9).trans hz10).trans hz11).trans hz12).trans hz13).trans hz14).trans hz15).trans hz16) HB5.out.1)
   have cf119 := blk4 (Ext.block (((((((((((hz6.trans ((Ext.refl _).drew)).trans hz7).trans hz8).trans hz9).trans hz10).trans hz11).trans hz12).trans hz13).trans hz14).trans hz15).trans hz16) HB5.out.2)
   go_wp2_with fail
   refine HK.out _ _ hz16 ?_
   clear HK K
   refine oneStep (fun K HK => ?_)
   simp only [PK]
   go_wp2_with fail
   refine (s_ValidPart u _ _ q _ _ (rU.ext ((((((((((((((hx4.trans hz5).trans hx5).trans hz6).trans ((Ext.refl _).drew)).trans hz7).trans hz8).trans hz9).trans hz10).trans hz11).trans hz12).trans hz13).trans hz14).trans hz15).trans hz16)) (rV.ext ((((((((((((((hx4.trans hz5).trans hx5).trans hz6).trans ((Ext.refl _).drew)).trans hz7).trans hz8).trans hz9).trans hz10).trans hz11).trans hz12).trans hz13).trans hz14).trans hz15).trans hz16)) (rQ.ext ((((((((((((((hx4.trans hz5).trans hx5).trans hz6).trans ((Ext.refl _).drew)).trans hz7).trans hz8).trans hz9).trans hz10).trans hz11).trans hz12).trans hz13).trans hz14).trans hz15).trans hz16))).mono ?_
   rintro e w17 ⟨rfl, hz17⟩
   try clear cf112
   try clear cf113
   try clear cf114
   try clear cf115
   try clear cf116
   try clear cf117
   try clear cf118
   try clear cf119
   have cf120 := blk2 (Ext.block ((((((((((((((((((((hz2.trans hx2).trans hz3).trans hx3).trans hz4).trans hx4).trans hz5).trans hx5).trans hz6).trans ((Ext.refl _).drew)).trans hz7).trans hz8).trans hz9).trans hz10).trans hz11).trans hz12).trans hz13).trans hz14).trans hz15).trans hz16).trans hz17) HB1.out.1)
   have cf121 := blk3 (Ext.block ((((((((((((((((((((hz2.trans hx2).trans hz3).trans hx3).trans hz4).trans hx4).trans hz5).trans hx5).trans hz6).trans ((Ext.refl _).drew)).trans hz7).trans hz8).trans hz9).trans hz10).trans hz11).trans hz12).trans hz13).trans hz14).trans hz15).trans hz16).trans hz17) HB1.out.2)
   have cf122 := blk3 (Ext.block ((((((((((((((((((hz3.trans hx3).trans hz4).trans hx4).trans hz5).trans hx5).trans hz6).trans ((Ext.refl _).drew)).trans hz7).trans hz8).trans hz9).trans hz10).trans hz11).trans hz12).trans hz13).trans hz14).trans hz15).trans hz16).trans hz17) HB2.out)
   have cf123 := blk4 (Ext.block ((((((((((((((((hz4.trans hx4).trans hz5).trans hx5).trans hz6).trans ((Ext.refl _).drew)).trans hz7).trans hz8).trans hz9).trans hz10).trans hz11).trans hz12).trans hz13).trans hz14).trans hz15).trans hz16).trans hz17) HB3.out)
   have cf124 := blk2 (Ext.block ((((((((((((((hz5.trans hx5).trans hz6).trans ((Ext.refl _).drew)).trans hz7).trans hz8).trans hz9).trans hz10).trans hz11).trans hz12).trans hz13).trans hz14).trans hz15).trans hz16).trans hz17) HB4.out.1)
   have cf125 := blk4 (Ext.block ((((((((((((((hz5.trans hx5).trans hz6).trans ((Ext.refl _).drew)).trans hz7).trans hz8).trans hz9).trans hz10).trans hz11).trans hz12).trans hz13).trans hz14).trans hz15).trans hz16).trans hz17) HB4.out.2)
   have cf126 := blk4 (Ext.block ((((((((((((hz6.trans ((Ext.refl _).drew)).trans hz7).trans hz8).trans hz9).trans hz10).trans hz11).trans hz12).trans hz13).trans hz14).trans hz15).trans hz16).trans hz17) HB5.out.1)
   have cf127 := blk4 (Ext.block ((((((((((((hz6.trans ((Ext.refl _).drew)).trans hz7).trans hz8).trans hz9).trans hz10).trans hz11).trans hz12).trans hz13).trans hz14).trans hz15).trans hz16).trans hz17) HB5.out.2)
   go_wp2_with fail
   refine HK.out _ _ hz17 ?_
   clear HK K
   refine blkStep (fun K HK => ?_)
   simp only [PK]
   go_wp2_with fail
   refine HK.out _ _ ?_
   clear HK K
   refine oneStep (fun K HK => ?_)
   simp only [PK]
   go_wp2_with fail
   refine (i_VerifyPart u _ _ q _ _ (rU.ext (((((((((((((((hx4.trans hz5).trans hx5).trans hz6).trans ((Ext.refl _).drew)).trans hz7).trans hz8).trans hz9).trans hz10).trans hz11).trans hz12).trans hz13).trans hz14).trans hz15).trans hz16).trans hz17)) (rQ.ext (((((((((((((((hx4.trans hz5).trans hx5).trans hz6).trans ((Ext.refl _).drew)).trans hz7).trans hz8).trans hz9).trans hz10).trans hz11).trans hz12).trans hz13).trans hz14).trans hz15).trans hz16).trans hz17))).mono ?_
   rintro e w18 ⟨rfl, hz18⟩
   try clear cf120
   try clear cf121
   try clear cf122
   try clear cf123
   try clear cf124
   try clear cf125
   try clear cf126
   try clear cf127
   have cf128 := blk2 (Ext.block (((((((((((((((((((((hz2.trans hx2).trans hz3).trans hx3).trans hz4).trans hx4).trans hz5).trans hx5).trans hz6).trans ((Ext.refl _).drew)).trans hz7).trans hz8).trans hz9).trans hz10).trans hz11).trans hz12).trans hz13).trans hz14).trans hz15).trans hz16).trans hz17).trans hz18) HB1.out.1)
   have cf129 := blk3 (Ext.block (((((((((((((((((((((hz2.trans hx2).trans hz3).trans hx3).trans hz4).trans hx4).trans hz5).trans hx5).trans hz6).trans ((Ext.refl _).drew)).trans hz7).trans hz8).trans hz9).trans hz10).trans hz11).trans hz12).trans hz13).trans hz14).trans hz15).trans hz16).trans hz17).trans hz18) HB1.out.2)
   have cf130 := blk3 (Ext.block (((((((((((((((((((hz3.trans hx3).trans hz4).trans hx4).trans hz5).trans hx5).trans hz6).trans ((Ext.refl _).drew)).trans hz7).trans hz8).trans hz9).trans hz10).trans hz11).trans hz12).trans hz13).trans hz14).trans hz15).trans hz16).trans hz17).trans hz18) HB2.out)
   have cf131 := blk4 (Ext.block (((((((((((((((((hz4.trans hx4).trans hz5).trans hx5).trans hz6).trans ((Ext.refl _).drew)).trans hz7).trans hz8).trans hz9).trans hz10).trans hz11).trans hz12).trans hz13).trans hz14).trans hz15).trans hz16).trans hz17).trans hz18) HB3.out)
   have cf132 := blk2 (Ext.block (((((((((((((((hz5.trans hx5).trans hz6).trans ((Ext.refl _).drew)).trans hz7).trans hz8).trans hz9).trans hz10).trans hz11).trans hz12).trans hz13).trans hz14).trans hz15).trans hz16).trans hz17).trans hz18) HB4.out.1)
   have cf133 := blk4 (Ext.block (((((((((((((((hz5.trans hx5).trans hz6).trans ((Ext.refl _).drew)).trans hz7).trans hz8).trans hz9).trans hz10).trans hz11).trans hz12).trans hz13).trans hz14).trans hz15).trans hz16).trans hz17).trans hz18) HB4.out.2)
   have cf134 := blk4 (Ext.block (((((((((((((hz6.trans ((Ext.refl _).drew)).trans hz7).trans hz8).trans hz9).trans hz10).trans hz11).trans hz12).trans hz13).trans hz14).trans hz15).trans hz16).trans hz17).trans hz18) HB5.out.1)
   have cf135 := blk4 (Ext.block (((((((((((((hz6.trans ((Ext.refl _).drew)).trans hz7).trans hz8).trans hz9).trans hz10).trans hz11).trans hz12).trans hz13).trans hz14).trans hz15).trans hz16).trans hz17).trans hz18) HB5.out.2)
   go_wp2_with fail
   refine HK.out _ _ hz18 ?_
   clear HK K
   refine oneStep (fun K HK => ?_)
   simp only [PK]
   go_wp2_with fail
   refine (s_VerifyPart u _ _ q _ _ (rU.ext ((((((((((((((((hx4.trans hz5).trans hx5).trans hz6).trans ((Ext.refl _).drew)).trans hz7).trans hz8).trans hz9).trans hz10).trans hz11).trans hz12).trans hz13).trans hz14).trans hz15).trans hz16).trans hz17).trans hz18)) (rQ.ext ((((((((((((((((hx4.trans hz5).trans hx5).trans hz6).trans ((Ext.refl _).drew)).trans hz7).trans hz8).trans hz9).trans hz10).trans hz11).trans hz12).trans hz13).trans hz14).trans hz15).trans hz16).trans hz17).trans hz18))).mono ?_
   rintro e w19 ⟨rfl, hz19⟩
   try clear cf128
   try clear cf129
   try clear cf130
   try clear cf131
   try clear cf132
   try clear cf133
   try clear cf134
   try clear cf135
   have cf136 := blk2 (Ext.block ((((((((((((((((((((((hz2.trans hx2).trans hz3).trans hx3).trans hz4).trans hx4).trans hz5).trans hx5).trans hz6).trans ((Ext.refl _).drew)).trans hz7).trans hz8).trans hz9).trans hz10).trans hz11).trans hz12).trans hz13).trans hz14).trans hz15).trans hz16).trans hz17).trans hz18).trans hz19) HB1.out.1)
   have cf137 := blk3 (Ext.block ((((((((((((((((((((((hz2.trans hx2).trans hz3).trans hx3).trans hz4).trans hx4).trans hz5).trans hx5).trans hz6).trans ((Ext.refl _).drew)).trans hz7).trans hz8).trans hz9).trans hz10).trans hz11).trans hz12).trans hz13).trans hz14).trans hz15).trans hz16).trans hz17).trans hz18).trans hz19) HB1.out.2)
   have cf138 := blk3 (Ext.block ((((((((((((((((((((hz3.trans hx3).trans hz4).trans hx4).trans hz5).trans hx5).trans hz6).trans ((Ext.refl _).drew)).trans hz7).trans hz8).trans hz9).trans hz10).trans hz11).trans hz12).trans hz13).trans hz14).trans hz15).trans hz16).trans hz17).trans hz18).trans hz19) HB2.out)
   have cf139 := blk4 (Ext.block ((((((((((((((((((hz4.trans hx4).trans hz5).trans hx5).trans hz6).trans ((Ext.refl _).drew)).trans hz7).trans hz8).trans hz9).trans hz10).trans hz11).trans hz12).trans hz13).trans hz14).trans hz15).trans hz16).trans hz17).trans hz18).trans hz19) HB3.out)
   have cf140 := blk2 (Ext.block ((((((((((((((((hz5.trans hx5).trans hz6).trans ((Ext.refl _).drew)).trans hz7).trans hz8).trans hz9).trans hz10).trans hz11).trans hz12).trans hz13).trans hz14).trans hz15).trans hz16).trans hz17).trans hz18).trans hz19) HB4.out.1)
   have cf141 := blk4 (Ext.block ((((((((((((((((hz5.trans hx5).trans hz6).trans ((Ext.refl _).drew)).trans hz7).trans hz8).trans hz9).trans hz10).trans hz11).trans hz12).trans hz13).trans hz14).trans hz15).trans hz16).trans hz17).trans hz18).trans hz19) HB4.out.2)
   have cf142 := blk4 (Ext.block ((((((((((((((hz6.trans ((Ext.refl _).drew)).trans hz7).trans hz8).trans hz9).trans hz10).trans hz11).trans hz12).trans hz13).trans hz14).trans hz15).trans hz16).trans hz17).trans hz18).trans hz19) HB5.out.1)
   have cf143 := blk4 (Ext.block ((((((((((((((hz6.trans ((Ext.refl _).drew)).trans hz7).trans hz8).trans hz9).trans hz10).trans hz11).trans hz12).trans hz13).trans hz14).trans hz15).trans hz16).trans hz17).trans hz18).trans hz19) HB5.out.2)
   go_wp2_with fail
   refine HK.out _ _ hz19 ?_
   clear HK K
   as_aux_lemma =>
    refine blkStep (fun K HK => ?_)
    simp only [PK]
    go_wp2_with fail
    refine HK.out _ _ ?_
    clear HK K
    refine oneStep (fun K HK => ?_)
    simp only [PK]
    go_wp2_with fail
    refine (i_EqualParts x y _ _ _ (rX.ext (((((((((((((((hx5.trans hz6).trans ((Ext.refl _).drew)).trans hz7).trans hz8).trans hz9).trans hz10).trans hz11).trans hz12).trans hz13).trans hz14).trans hz15).trans hz16).trans hz17).trans hz18).trans hz19)) (rY.ext (((((((((((((((hx5.trans hz6).trans ((Ext.refl _).drew)).trans hz7).trans hz8).trans hz9).trans hz10).trans hz11).trans hz12).trans hz13).trans hz14).trans hz15).trans hz16).trans hz17).trans hz18).trans hz19))).mono ?_
    rintro e w20 ⟨rfl, hz20⟩
    try clear cf136
    try clear cf137
    try clear cf138
    try clear cf139
    try clear cf140
    try clear cf141
    try clear cf142
    try clear cf143
    have cf144 := blk2 (Ext.block (((((((((((((((((((((((hz2.trans hx2).trans hz3).trans hx3).trans hz4).trans hx4).trans hz5).trans hx5).trans hz6).trans ((Ext.refl _).drew)).trans hz7).trans hz8).trans hz9).trans hz10).trans hz11).trans hz12).trans hz13).trans hz14).trans hz15).trans hz16).trans hz17).trans hz18).trans hz19).trans hz20) HB1.out.1)
    have cf145 := blk3 (Ext.block (((((((((((((((((((((((hz2.trans hx2).trans hz3).trans hx3).trans hz4).trans hx4).trans hz5).trans hx5).trans hz6).trans ((Ext.refl _).drew)).trans hz7).trans hz8).trans hz9).trans hz10).trans hz11).trans hz12).trans hz13).trans hz14).trans hz15).trans hz16).trans hz17).trans hz18).trans hz19).trans hz20) HB1.out.2)
    have cf146 := blk3 (Ext.block (((((((((((((((((((((hz3.trans hx3).trans hz4).trans hx4).trans hz5).trans hx5).trans hz6).trans ((Ext.refl _).drew)).trans hz7).trans hz8).trans hz9).trans hz10).trans hz11).trans hz12).trans hz13).trans hz14).trans hz15).trans hz16).trans hz17).trans hz18).trans hz19).trans hz20) HB2.out)
    have cf147 := blk4 (Ext.block (((((((((((((((((((hz4.trans hx4).trans hz5).trans hx5).trans hz6).trans ((Ext.refl _).drew)).trans hz7).trans hz8).trans hz9).trans hz10).trans hz11).trans hz12).trans hz13).trans hz14).trans hz15).trans hz16).trans hz17).trans hz18).trans hz19).trans hz20) HB3.out)
    have cf148 := blk2 (Ext.block (((((((((((((((((hz5.trans hx5).trans hz6).trans ((Ext.refl _).drew)).trans hz7).trans hz8).trans hz9).trans hz10).trans hz11).trans hz12).trans hz13).trans hz14).trans hz15).trans hz16).trans hz17).trans hz18).trans hz19).trans hz20) HB4.out.1)
    have cf149 := blk4 (Ext.block (((((((((((((((((hz5.trans hx5).trans hz6).trans ((Ext.refl _).drew)).trans hz7).trans hz8).trans hz9).trans hz10).trans hz11).trans hz12).trans hz13).trans hz14).trans hz15).trans hz16).trans hz17).trans hz18).trans hz19).trans hz20) HB4.out.2)
    have cf150 := blk4 (Ext.block (((((((((((((((hz6.trans ((Ext.refl _).drew)).trans hz7).trans hz8).trans hz9).trans hz10).trans hz11).trans hz12).trans hz13).trans hz14).trans hz15).trans hz16).trans hz17).trans hz18).trans hz19).trans hz20) HB5.out.1)
    have cf151 := blk4 (Ext.block (((((((((((((((hz6.trans ((Ext.refl _).drew)).trans hz7).trans hz8).trans hz9).trans hz10).trans hz11).trans hz12).trans hz13).trans hz14).trans hz15).trans hz16).trans hz17).trans hz18).trans hz19).trans hz20) HB5.out.2)
    go_wp2_with fail
    refine HK.out _ _ hz20 ?_
    clear HK K
    refine oneStep (fun K HK => ?_)
    simp only [PK]
    go_wp2_with fail
    refine (l_samePart x y _ _ _ (rX.ext ((((((((((((((((hx5.trans hz6).trans ((Ext.refl _).drew)).trans hz7).trans hz8).trans hz9).trans hz10).trans hz11).trans hz12).trans hz13).trans hz14).trans hz15).trans hz16).trans hz17).trans hz18).trans hz19).trans hz20)) (rY.ext ((((((((((((((((hx5.trans hz6).trans ((Ext.refl _).drew)).trans hz7).trans hz8).trans hz9).trans hz10).trans hz11).trans hz12).trans hz13).trans hz14).trans hz15).trans hz16).trans hz17).trans hz18).trans hz19).trans hz20))).mono ?_
    rintro e w21 ⟨rfl, hz21⟩
    try clear cf144
    try clear cf145
    try clear cf146
    try clear cf147
    try clear cf148
    try clear cf149
    try clear cf150
    try clear cf151
    have cf152 := blk2 (Ext.block ((((((((((((((((((((((((hz2.trans hx2).trans hz3).trans hx3).trans hz4).trans hx4).trans hz5).trans hx5).trans hz6).trans ((Ext.refl _).drew)).trans hz7).trans hz8).trans hz9).trans hz10).trans hz11).trans hz12).trans hz13).trans hz14).trans hz15).trans hz16).trans hz17).trans hz18).trans hz19).trans hz20).trans hz21) HB1.out.1)
    have cf153 := blk3 (Ext.block ((((((((((((((((((((((((hz2.trans hx2).trans hz3).trans hx3).trans hz4).trans hx4).trans hz5).trans hx5).trans hz6).trans ((Ext.refl _).drew)).trans hz7).trans hz8).trans hz9).trans hz10).trans hz11).trans hz12).trans hz13).trans hz14).trans hz15).trans hz16).trans hz17).trans hz18).trans hz19).trans hz20).trans hz21) HB1.out.2)
    have cf154 := blk3 (Ext.block ((((((((((((((((((((((hz3.trans hx3).trans hz4).trans hx4).trans hz5).trans hx5).trans hz6).trans ((Ext.refl _).drew)).trans hz7).trans hz8).trans hz9).trans hz10).trans hz11).trans hz12).trans hz13).trans hz14).trans hz15).trans hz16).trans hz17).trans hz18).trans hz19).trans hz20).trans hz21) HB2.out)
    have cf155 := blk4 (Ext.block ((((((((((((((((((((hz4.trans hx4).trans hz5).trans hx5).trans hz6).trans ((Ext.refl _).drew)).trans hz7).trans hz8).trans hz9).trans hz10).trans hz11).trans hz12).trans hz13).trans hz14).trans hz15).trans hz16).trans hz17).trans hz18).trans hz19).trans hz20).trans hz21) HB3.out)
    have cf156 := blk2 (Ext.block ((((((((((((((((((hz5.trans hx5).trans hz6).trans ((Ext.refl _).drew)).trans hz7).trans hz8).trans hz9).trans hz10).trans hz11).trans hz12).trans hz13).trans hz14).trans hz15).trans hz16).trans hz17).trans hz18).trans hz19).trans hz20).trans hz21) HB4.out.1)
    have cf157 := blk4 (Ext.block ((((((((((((((((((hz5.trans hx5).trans hz6).trans ((Ext.refl _).drew)).trans hz7).trans hz8).trans hz9).trans hz10).trans hz11).trans hz12).trans hz13).trans hz14).trans hz15).trans hz16).trans hz17).trans hz18).trans hz19).trans hz20).trans hz21) HB4.out.2)
    have cf158 := blk4 (Ext.block ((((((((((((((((hz6.trans ((Ext.refl _).drew)).trans hz7).trans hz8).trans hz9).trans hz10).trans hz11).trans hz12).trans hz13).trans hz14).trans hz15).trans hz16).trans hz17).trans hz18).trans hz19).trans hz20).trans hz21) HB5.out.1)
    have cf159 := blk4 (Ext.block ((((((((((((((((hz6.trans ((Ext.refl _).drew)).trans hz7).trans hz8).trans hz9).trans hz10).trans hz11).trans hz12).trans hz13).trans hz14).trans hz15).trans hz16).trans hz17).trans hz18).trans hz19).trans hz20).trans hz21) HB5.out.2)
    go_wp2_with fail
    refine HK.out _ _ hz21 ?_
    clear HK K
    refine blkStep (fun K HK => ?_)
    simp only [PK]
    go_wp2_with fail
    refine HK.out _ _ ?_
    clear HK K
    refine oneStep (fun K HK => ?_)
    simp only [PK]
    go_wp2_with fail
    refine (i_IsReversedE kr _).mono ?_
    rintro e w22 ⟨rfl, hz22⟩
    try clear cf152
    try clear cf153
    try clear cf154
    try clear cf155
    try clear cf156
    try clear cf157
    try clear cf158
    try clear cf159
    have cf160 := blk2 (Ext.block (((((((((((((((((((((((((hz2.trans hx2).trans hz3).trans hx3).trans hz4).trans hx4).trans hz5).trans hx5).trans hz6).trans ((Ext.refl _).drew)).trans hz7).trans hz8).trans hz9).trans hz10).trans hz11).trans hz12).trans hz13).trans hz14).trans hz15).trans hz16).trans hz17).trans hz18).trans hz19).trans hz20).trans hz21).trans hz22) HB1.out.1)
    have cf161 := blk3 (Ext.block (((((((((((((((((((((((((hz2.trans hx2).trans hz3).trans hx3).trans hz4).trans hx4).trans hz5).trans hx5).trans hz6).trans ((Ext.refl _).drew)).trans hz7).trans hz8).trans hz9).trans hz10).trans hz11).trans hz12).trans hz13).trans hz14).trans hz15).trans hz16).trans hz17).trans hz18).trans hz19).trans hz20).trans hz21).trans hz22) HB1.out.2)
    have cf162 := blk3 (Ext.block (((((((((((((((((((((((hz3.trans hx3).trans hz4).trans hx4).trans hz5).trans hx5).trans hz6).trans ((Ext.refl _).drew)).trans hz7).trans hz8).trans hz9).trans hz10).trans hz11).trans hz12).trans hz13).trans hz14).trans hz15).trans hz16).trans hz17).trans hz18).trans hz19).trans hz20).trans hz21).trans hz22) HB2.out)
    have cf163 := blk4 (Ext.block (((((((((((((((((((((hz4.trans hx4).trans hz5).trans hx5).trans hz6).trans ((Ext.refl _).drew)).trans hz7).trans hz8).trans hz9).trans hz10).trans hz11).trans hz12).trans hz13).trans hz14).trans hz15).trans hz16).trans hz17).trans hz18).trans hz19).trans hz20).trans hz21).trans hz22) HB3.out)
    have cf164 := blk2 (Ext.block (((((((((((((((((((hz5.trans hx5).trans hz6).trans ((Ext.refl _).drew)).trans hz7).trans hz8).trans hz9).trans hz10).trans hz11).trans hz12).trans hz13).trans hz14).trans hz15).trans hz16).trans hz17).trans hz18).trans hz19).trans hz20).trans hz21).trans hz22) HB4.out.1)
    have cf165 := blk4 (Ext.block (((((((((((((((((((hz5.trans hx5).trans hz6).trans ((Ext.refl _).drew)).trans hz7).trans hz8).trans hz9).trans hz10).trans hz11).trans hz12).trans hz13).trans hz14).trans hz15).trans hz16).trans hz17).trans hz18).trans hz19).trans hz20).trans hz21).trans hz22) HB4.out.2)
    have cf166 := blk4 (Ext.block (((((((((((((((((hz6.trans ((Ext.refl _).drew)).trans hz7).trans hz8).trans hz9).trans hz10).trans hz11).trans hz12).trans hz13).trans hz14).trans hz15).trans hz16).trans hz17).trans hz18).trans hz19).trans hz20).trans hz21).trans hz22) HB5.out.1)
    have cf167 := blk4 (Ext.block (((((((((((((((((hz6.trans ((Ext.refl _).drew)).trans hz7).trans hz8).trans hz9).trans hz10).trans hz11).trans hz12).trans hz13).trans hz14).trans hz15).trans hz16).trans hz17).trans hz18).trans hz19).trans hz20).trans hz21).trans hz22) HB5.out.2)
    go_wp2_with fail
    refine HK.out _ _ hz22 ?_
    clear HK K
    refine oneStep (fun K HK => ?_)
    simp only [PK]
    go_wp2_with fail
    refine (s_IsReversedE kr _).mono ?_
    rintro e w23 ⟨rfl, hz23⟩
    try clear cf160
    try clear cf161
    try clear cf162
    try clear cf163
    try clear cf164
    try clear cf165
    try clear cf166
    try clear cf167
    have cf168 := blk2 (Ext.block ((((((((((((((((((((((((((hz2.trans hx2).trans hz3).trans hx3).trans hz4).trans hx4).trans hz5).trans hx5).trans hz6).trans ((Ext.refl _).drew)).trans hz7).trans hz8).trans hz9).trans hz10).trans hz11).trans hz12).trans hz13).trans hz14).trans hz15).trans hz16).trans hz17).trans hz18).trans hz19).trans hz20).trans hz21).trans hz22).trans hz23) HB1.out.1)
    have cf169 := blk3 (Ext.block ((((((((((((((((((((((((((hz2.trans hx2).trans hz3).trans hx3).trans hz4).trans hx4).trans hz5).trans hx5).trans hz6).trans ((Ext.refl _).drew)).trans hz7).trans hz8).trans hz9).trans hz10).trans hz11).trans hz12).trans hz13).trans hz14).trans hz15).trans hz16).trans hz17).trans hz18).trans hz19).trans hz20).trans hz21).trans hz22).trans hz23) HB1.out.2)
    have cf170 := blk3 (Ext.block ((((((((((((((((((((((((hz3.trans hx3).trans hz4).trans hx4).trans hz5).trans hx5).trans hz6).trans ((Ext.refl _).drew)).trans hz7).trans hz8).trans hz9).trans hz10).trans hz11).trans hz12).trans hz13).trans hz14).trans hz15).trans hz16).trans hz17).trans hz18).trans hz19).trans hz20).trans hz21).trans hz22).trans hz23) HB2.out)
    have cf171 := blk4 (Ext.block ((((((((((((((((((((((hz4.trans hx4).trans hz5).trans hx5).trans hz6).trans ((Ext.refl _).drew)).trans hz7).trans hz8).trans hz9).trans hz10).trans hz11).trans hz12).trans hz13).trans hz14).trans hz15).trans hz16).trans hz17).trans hz18).trans hz19).trans hz20).trans hz21).trans hz22).trans hz23) HB3.out)
    have cf172 := blk2 (Ext.block ((((((((((((((((((((hz5.trans hx5).trans hz6).trans ((Ext.refl _).drew)).trans hz7).trans hz8).trans hz9).trans hz10).trans hz11).trans hz12).trans hz13).trans hz14).trans hz15).trans hz16).trans hz17).trans hz18).trans hz19).trans hz20).trans hz21).trans hz22).trans hz23) HB4.out.1)
    have cf173 := blk4 (Ext.block ((((((((((((((((((((hz5.trans hx5).trans hz6).trans ((Ext.refl _).drew)).trans hz7).trans hz8).trans hz9).trans hz10).trans hz11).trans hz12).trans hz13).trans hz14).trans hz15).trans hz16).trans hz17).trans hz18).trans hz19).trans hz20).trans hz21).trans hz22).trans hz23) HB4.out.2)
    have cf174 := blk4 (Ext.block ((((((((((((((((((hz6.trans ((Ext.refl _).drew)).trans hz7).trans hz8).trans hz9).trans hz10).trans hz11).trans hz12).trans hz13).trans hz14).trans hz15).trans hz16).trans hz17).trans hz18).trans hz19).trans hz20).trans hz21).trans hz22).trans hz23) HB5.out.1)
    have cf175 := blk4 (Ext.block ((((((((((((((((((hz6.trans ((Ext.refl _).drew)).trans hz7).trans hz8).trans hz9).trans hz10).trans hz11).trans hz12).trans hz13).trans hz14).trans hz15).trans hz16).trans hz17).trans hz18).trans hz19).trans hz20).trans hz21).trans hz22).trans hz23) HB5.out.2)
    go_wp2_with fail
    refine HK.out _ _ hz23 ?_
    clear HK K
    refine blkStep (fun K HK => ?_)
    simp only [PK]
    go_wp2_with fail
    refine HK.out _ _ ?_
    clear HK K
    refine doneStep (by kernel_rfl) ?_
    clear hne1 hne2 hne3 hne4 hne5 hne6 hne7
    by_cases h0 : a.hops.length = 0
    ·
     as_aux_lemma =>
      have h1 : ((a.hops.length : Int) == 0) = true := by rw [beq_iff_eq]; omega
      have HH0 := Lib.hid h0
      clear h0
      go_wp2_with fail
      refine (i_MakePart a _ 4 0 _ (rH.ext (((((((((((((((((((((((((((hx1.trans hz2).trans hx2).trans hz3).trans hx3).trans hz4).trans hx4).trans hz5).trans hx5).trans hz6).trans ((Ext.refl _).drew)).trans hz7).trans hz8).trans hz9).trans hz10).trans hz11).trans hz12).trans hz13).trans hz14).trans hz15).trans hz16).trans hz17).trans hz18).trans hz19).trans hz20).trans hz21).trans hz22).trans hz23)) (by omega)).mono ?_
      rintro e w24 ⟨vz, rfl, ho, hz24⟩
      obtain ⟨oz, cz, rfl, _⟩ := (OwnF.rd (hf := Hop.flen) ho).shape
      clear ho
      obtain ⟨z, hz⟩ : ∃ z, z = makePart a 4 0 := ⟨_, rfl⟩
      have hzl : z.hops.length = 0 := by rw [hz, makePart_none HH0.out]; rfl
      rw [← hz]
      clear hz
      rw [hzl]
      have hfd : ∀ w : World, (Instr.field 78 (.agg #[.int .i64 z.kind, .int .i64 z.ts, .int .i64 z.beta, .slice oz 0 cz]) 3).run Try.prog w = .ok (.slice oz 0 cz) w := fun _ => by kernel_rfl
      clear hzl
      try clear cf168
      try clear cf169
      try clear cf170
      try clear cf171
      try clear cf172
      try clear cf173
      try clear cf174
      try clear cf175
      have cf176 := blk2 (Ext.block (((((((((((((((((((((((((((hz2.trans hx2).trans hz3).trans hx3).trans hz4).trans hx4).trans hz5).trans hx5).trans hz6).trans ((Ext.refl _).drew)).trans hz7).trans hz8).trans hz9).trans hz10).trans hz11).trans hz12).trans hz13).trans hz14).trans hz15).trans hz16).trans hz17).trans hz18).trans hz19).trans hz20).trans hz21).trans hz22).trans hz23).trans hz24) HB1.out.1)
      have cf177 := blk3 (Ext.block (((((((((((((((((((((((((((hz2.trans hx2).trans hz3).trans hx3).trans hz4).trans hx4).trans hz5).trans hx5).trans hz6).trans ((Ext.refl _).drew)).trans hz7).trans hz8).trans hz9).trans hz10).trans hz11).trans hz12).trans hz13).trans hz14).trans hz15).trans hz16).trans hz17).trans hz18).trans hz19).trans hz20).trans hz21).trans hz22).trans hz23).trans hz24) HB1.out.2)
      go_wp2_with fail
      go_ret
      exact ⟨rfl, (((((((((((((((((((((((((((((hz1.trans hx1).trans hz2).trans hx2).trans hz3).trans hx3).trans hz4).trans hx4).trans hz5).trans hx5).trans hz6).trans ((Ext.refl _).drew)).trans hz7).trans hz8).trans hz9).trans hz10).trans hz11).trans hz12).trans hz13).trans hz14).trans hz15).trans hz16).trans hz17).trans hz18).trans hz19).trans hz20).trans hz21).trans hz22).trans hz23).trans hz24)⟩
    ·
     as_aux_lemma =>
      have h1 : ((a.hops.length : Int) == 0) = false := by rw [beq_eq_false_iff_ne]; omega
      have h2 : (a.hops.length : Int) ≠ 0 := by omega
      have h3 : ¬ (a.hops.length : Int) = 0 := by omega
      have h4 : ¬ a.hops = [] := fun e => h0 (by rw [e]; rfl)
      go_wp2_with fail
      refine planStep (.blk [0, 2, 3, 4] (.one 1 (.blk [5, 6] .done))) [] (by kernel_rfl) (by kernel_rfl) ?_
      try clear cf168
      try clear cf169
      try clear cf170
      try clear cf171
      try clear cf172
      try clear cf173
      try clear cf174
      try clear cf175
      have cf178 := blk2 (Ext.block (((((((((((((((((((((((((((hz2.trans hx2).trans hz3).trans hx3).trans hz4).trans hx4).trans hz5).trans hx5).trans hz6).trans ((Ext.refl _).drew)).trans hz7).trans hz8).trans hz9).trans hz10).trans hz11).trans hz12).trans hz13).trans hz14).trans hz15).trans hz16).trans hz17).trans hz18).trans hz19).trans hz20).trans hz21).trans hz22).trans hz23).trans ((Ext.refl _).drew)) HB1.out.1)
      have cf179 := blk3 (Ext.block (((((((((((((((((((((((((((hz2.trans hx2).trans hz3).trans hx3).trans hz4).trans hx4).trans hz5).trans hx5).trans hz6).trans ((Ext.refl _).drew)).trans hz7).trans hz8).trans hz9).trans hz10).trans hz11).trans hz12).trans hz13).trans hz14).trans hz15).trans hz16).trans hz17).trans hz18).trans hz19).trans hz20).trans hz21).trans hz22).trans hz23).trans ((Ext.refl _).drew)) HB1.out.2)
      refine blkStep (fun K HK => ?_)
      simp only [PK]
      go_wp2_with fail
      refine HK.out _ _ ?_
      clear HK K
      refine oneStep (fun K HK => ?_)
      simp only [PK]
      go_wp2_with fail
      refine (l_atE code _ 5 _ (hr.ext (((((((((((((((((((((((((((((hz1.trans hx1).trans hz2).trans hx2).trans hz3).trans hx3).trans hz4).trans hx4).trans hz5).trans hx5).trans hz6).trans ((Ext.refl _).drew)).trans hz7).trans hz8).trans hz9).trans hz10).trans hz11).trans hz12).trans hz13).trans hz14).trans hz15).trans hz16).trans hz17).trans hz18).trans hz19).trans hz20).trans hz21).trans hz22).trans hz23).trans ((Ext.refl _).drew))) hu (by omega) (by omega) hl).mono ?_
      rintro e w25 ⟨rr, rfl, hr0, hr1, hz25⟩
      try clear cf178
      try clear cf179
      have cf180 := blk2 (Ext.block ((((((((((((((((((((((((((((hz2.trans hx2).trans hz3).trans hx3).trans hz4).trans hx4).trans hz5).trans hx5).trans hz6).trans ((Ext.refl _).drew)).trans hz7).trans hz8).trans hz9).trans hz10).trans hz11).trans hz12).trans hz13).trans hz14).trans hz15).trans hz16).trans hz17).trans hz18).trans hz19).trans hz20).trans hz21).trans hz22).trans hz23).trans ((Ext.refl _).drew)).trans hz25) HB1.out.1)
      have cf181 := blk3 (Ext.block ((((((((((((((((((((((((((((hz2.trans hx2).trans hz3).trans hx3).trans hz4).trans hx4).trans hz5).trans hx5).trans hz6).trans ((Ext.refl _).drew)).trans hz7).trans hz8).trans hz9).trans hz10).trans hz11).trans hz12).trans hz13).trans hz14).trans hz15).trans hz16).trans hz17).trans hz18).trans hz19).trans hz20).trans hz21).trans hz22).trans hz23).trans ((Ext.refl _).drew)).trans hz25) HB1.out.2)
      go_wp2_with fail
      refine HK.out _ _ hz25 ?_
      clear HK K
      refine blkStep (fun K HK => ?_)
      simp only [PK]
      go_wp2_with fail
      refine HK.out _ _ ?_
      clear HK K
      refine doneStep (by kernel_rfl) ?_
      obtain ⟨j, hj, hjl⟩ : ∃ j : Nat, rr % (a.hops.length : Int) = (j : Int) ∧ j < a.hops.length := by
       have q0 := Int.emod_nonneg rr (show (a.hops.length : Int) ≠ 0 by omega)
       have q1 := Int.emod_lt_of_pos rr (show (0 : Int) < (a.hops.length : Int) by omega)
       exact ⟨(rr % (a.hops.length : Int)).toNat, by omega, by omega⟩
      have HJ := Lib.hid hj
      have e9 : wrap64 (j : Int) = j := by unfold wrap64; omega
      rw [hj]
      try rw [e9]
      clear hj e9
      have LAW := parts_law TK SD hjl
      have HL := Lib.hid LAW
      clear LAW h1 h2 h3 h4
      go_wp2_with fail
      refine (i_MakePart a _ 1 (j : Int) _ (rH.ext (((((((((((((((((((((((((((((hx1.trans hz2).trans hx2).trans hz3).trans hx3).trans hz4).trans hx4).trans hz5).trans hx5).trans hz6).trans ((Ext.refl _).drew)).trans hz7).trans hz8).trans hz9).trans hz10).trans hz11).trans hz12).trans hz13).trans hz14).trans hz15).trans hz16).trans hz17).trans hz18).trans hz19).trans hz20).trans hz21).trans hz22).trans hz23).trans ((Ext.refl _).drew)).trans hz25)) (by omega)).mono ?_
      rintro e w26 ⟨vup, rfl, ho, hz26⟩
      obtain ⟨up, hup⟩ : ∃ up, up = makePart a 1 j := ⟨_, rfl⟩
      rw [← hup] at ho HL ⊢
      clear hup
      have rup := OwnF.rd (hf := Hop.flen) ho
      clear ho
      obtain ⟨o_up, c_up, rfl, _⟩ := rup.shape
      have hx6 : Ext w26 (w26.alloc (.cells #[.int .i64 up.kind, .int .i64 up.ts, .int .i64 up.beta, .slice o_up up.hops.length c_up] 78)) := (Ext.refl _).alloc _
      have HB6 := Lib.hid (blk_new w26 (.cells #[.int .i64 up.kind, .int .i64 up.ts, .int .i64 up.beta, .slice o_up up.hops.length c_up] 78))
      try clear cf180
      try clear cf181
      have cf182 := blk2 (Ext.block ((((((((((((((((((((((((((((((hz2.trans hx2).trans hz3).trans hx3).trans hz4).trans hx4).trans hz5).trans hx5).trans hz6).trans ((Ext.refl _).drew)).trans hz7).trans hz8).trans hz9).trans hz10).trans hz11).trans hz12).trans hz13).trans hz14).trans hz15).trans hz16).trans hz17).trans hz18).trans hz19).trans hz20).trans hz21).trans hz22).trans hz23).trans ((Ext.refl _).drew)).trans hz25).trans hz26).trans hx6) HB1.out.1)
      have cf183 := blk3 (Ext.block ((((((((((((((((((((((((((((((hz2.trans hx2).trans hz3).trans hx3).trans hz4).trans hx4).trans hz5).trans hx5).trans hz6).trans ((Ext.refl _).drew)).trans hz7).trans hz8).trans hz9).trans hz10).trans hz11).trans hz12).trans hz13).trans hz14).trans hz15).trans hz16).trans hz17).trans hz18).trans hz19).trans hz20).trans hz21).trans hz22).trans hz23).trans ((Ext.refl _).drew)).trans hz25).trans hz26).trans hx6) HB1.out.2)
      have cf184 := blk4 HB6.out
      go_wp2_with fail
      refine (i_MakePart a _ 4 (j : Int) _ (rH.ext (((((((((((((((((((((((((((((((hx1.trans hz2).trans hx2).trans hz3).trans hx3).trans hz4).trans hx4).trans hz5).trans hx5).trans hz6).trans ((Ext.refl _).drew)).trans hz7).trans hz8).trans hz9).trans hz10).trans hz11).trans hz12).trans hz13).trans hz14).trans hz15).trans hz16).trans hz17).trans hz18).trans hz19).trans hz20).trans hz21).trans hz22).trans hz23).trans ((Ext.refl _).drew)).trans hz25).trans hz26).trans hx6)) (by omega)).mono ?_
      rintro e w27 ⟨vdn, rfl, ho, hz27⟩
      obtain ⟨dn, hdn⟩ : ∃ dn, dn = makePart a 4 j := ⟨_, rfl⟩
      rw [← hdn] at ho HL ⊢
      clear hdn
      have rdn := OwnF.rd (hf := Hop.flen) ho
      clear ho
      obtain ⟨o_dn, c_dn, rfl, _⟩ := rdn.shape
      have hx7 : Ext w27 (w27.alloc (.cells #[.int .i64 dn.kind, .int .i64 dn.ts, .int .i64 dn.beta, .slice o_dn dn.hops.length c_dn] 78)) := (Ext.refl _).alloc _
      have HB7 := Lib.hid (blk_new w27 (.cells #[.int .i64 dn.kind, .int .i64 dn.ts, .int .i64 dn.beta, .slice o_dn dn.hops.length c_dn] 78))
      obtain ⟨L1, L2, L3, L4, L5, L6⟩ := HL.out
      clear HL
      have L5b : (betaAfter dn dn.hops.length == up.beta) = true := by rw [beq_iff_eq]; exact L5
      have L6b : (betaAfter up up.hops.length == dn.beta) = true := by rw [beq_iff_eq]; exact L6
      clear L5 L6
      try clear cf182
      try clear cf183
      try clear cf184
      have cf185 := blk2 (Ext.block ((((((((((((((((((((((((((((((((hz2.trans hx2).trans hz3).trans hx3).trans hz4).trans hx4).trans hz5).trans hx5).trans hz6).trans ((Ext.refl _).drew)).trans hz7).trans hz8).trans hz9).trans hz10).trans hz11).trans hz12).trans hz13).trans hz14).trans hz15).trans hz16).trans hz17).trans hz18).trans hz19).trans hz20).trans hz21).trans hz22).trans hz23).trans ((Ext.refl _).drew)).trans hz25).trans hz26).trans hx6).trans hz27).trans hx7) HB1.out.1)
      have cf186 := blk3 (Ext.block ((((((((((((((((((((((((((((((((hz2.trans hx2).trans hz3).trans hx3).trans hz4).trans hx4).trans hz5).trans hx5).trans hz6).trans ((Ext.refl _).drew)).trans hz7).trans hz8).trans hz9).trans hz10).trans hz11).trans hz12).trans hz13).trans hz14).trans hz15).trans hz16).trans hz17).trans hz18).trans hz19).trans hz20).trans hz21).trans hz22).trans hz23).trans ((Ext.refl _).drew)).trans hz25).trans hz26).trans hx6).trans hz27).trans hx7) HB1.out.2)
      have cf187 := blk4 (Ext.block (hz27.trans hx7) HB6.out)
      have cf188 := blk4 HB7.out
      go_wp2_with fail
      refine planStep (.blk [0, 1] (.one 2 (.blk [3, 4, 5] (.one 6 (.blk [7, 8, 9, 10] (.one 11 (.blk [12, 13, 14, 15] (.one 16 (.blk [17, 18, 19, 20, 21, 22, 24, 25] (.one 23 (.blk [26, 27, 28, 29, 30, 31, 32, 34, 35] (.one 33 (.blk [36, 37, 38] .done))))))))))))) [] (by kernel_rfl) (by as_aux_lemma => kernel_rfl) ?_
      try clear cf185
      try clear cf186
      try clear cf187
      try clear cf188
      have cf189 := blk2 (Ext.block (((((((((((((((((((((((((((((((((hz2.trans hx2).trans hz3).trans hx3).trans hz4).trans hx4).trans hz5).trans hx5).trans hz6).trans ((Ext.refl _).drew)).trans hz7).trans hz8).trans hz9).trans hz10).trans hz11).trans hz12).trans hz13).trans hz14).trans hz15).trans hz16).trans hz17).trans hz18).trans hz19).trans hz20).trans hz21).trans hz22).trans hz23).trans ((Ext.refl _).drew)).trans hz25).trans hz26).trans hx6).trans hz27).trans hx7).trans ((Ext.refl _).drew)) HB1.out.1)
      have cf190 := blk3 (Ext.block (((((((((((((((((((((((((((((((((hz2.trans hx2).trans hz3).trans hx3).trans hz4).trans hx4).trans hz5).trans hx5).trans hz6).trans ((Ext.refl _).drew)).trans hz7).trans hz8).trans hz9).trans hz10).trans hz11).trans hz12).trans hz13).trans hz14).trans hz15).trans hz16).trans hz17).trans hz18).trans hz19).trans hz20).trans hz21).trans hz22).trans hz23).trans ((Ext.refl _).drew)).trans hz25).trans hz26).trans hx6).trans hz27).trans hx7).trans ((Ext.refl _).drew)) HB1.out.2)
      have cf191 := blk4 (Ext.block ((hz27.trans hx7).trans ((Ext.refl _).drew)) HB6.out)
      have cf192 := blk4 (Ext.block ((Ext.refl _).drew) HB7.out)
      refine blkStep (fun K HK => ?_)
      simp only [PK]
      go_wp2_with fail
      refine HK.out _ _ ?_
      clear HK K
      refine oneStep (fun K HK => ?_)
      simp only [PK]
      go_wp2_with fail
      refine (i_ValidPart t _ _ up _ _ (rA.ext ((((((((((((((((((((((((((((((((((hx1.trans hz2).trans hx2).trans hz3).trans hx3).trans hz4).trans hx4).trans hz5).trans hx5).trans hz6).trans ((Ext.refl _).drew)).trans hz7).trans hz8).trans hz9).trans hz10).trans hz11).trans hz12).trans hz13).trans hz14).trans hz15).trans hz16).trans hz17).trans hz18).trans hz19).trans hz20).trans hz21).trans hz22).trans hz23).trans ((Ext.refl _).drew)).trans hz25).trans hz26).trans hx6).trans hz27).trans hx7).trans ((Ext.refl _).drew))) (rL.ext ((((((((((((((((((((((((((((((((((hx1.trans hz2).trans hx2).trans hz3).trans hx3).trans hz4).trans hx4).trans hz5).trans hx5).trans hz6).trans ((Ext.refl _).drew)).trans hz7).trans hz8).trans hz9).trans hz10).trans hz11).trans hz12).trans hz13).trans hz14).trans hz15).trans hz16).trans hz17).trans hz18).trans hz19).trans hz20).trans hz21).trans hz22).trans hz23).trans ((Ext.refl _).drew)).trans hz25).trans hz26).trans hx6).trans hz27).trans hx7).trans ((Ext.refl _).drew))) (rup.ext (((hx6.trans hz27).trans hx7).trans ((Ext.refl _).drew)))).mono ?_
      rintro e w28 ⟨rfl, hz28⟩
      try clear cf189
      try clear cf190
      try clear cf191
      try clear cf192
      have cf193 := blk2 (Ext.block ((((((((((((((((((((((((((((((((((hz2.trans hx2).trans hz3).trans hx3).trans hz4).trans hx4).trans hz5).trans hx5).trans hz6).trans ((Ext.refl _).drew)).trans hz7).trans hz8).trans hz9).trans hz10).trans hz11).trans hz12).trans hz13).trans hz14).trans hz15).trans hz16).trans hz17).trans hz18).trans hz19).trans hz20).trans hz21).trans hz22).trans hz23).trans ((Ext.refl _).drew)).trans hz25).trans hz26).trans hx6).trans hz27).trans hx7).trans ((Ext.refl _).drew)).trans hz28) HB1.out.1)
      have cf194 := blk3 (Ext.block ((((((((((((((((((((((((((((((((((hz2.trans hx2).trans hz3).trans hx3).trans hz4).trans hx4).trans hz5).trans hx5).trans hz6).trans ((Ext.refl _).drew)).trans hz7).trans hz8).trans hz9).trans hz10).trans hz11).trans hz12).trans hz13).trans hz14).trans hz15).trans hz16).trans hz17).trans hz18).trans hz19).trans hz20).trans hz21).trans hz22).trans hz23).trans ((Ext.refl _).drew)).trans hz25).trans hz26).trans hx6).trans hz27).trans hx7).trans ((Ext.refl _).drew)).trans hz28) HB1.out.2)
      have cf195 := blk4 (Ext.block (((hz27.trans hx7).trans ((Ext.refl _).drew)).trans hz28) HB6.out)
      have cf196 := blk4 (Ext.block (((Ext.refl _).drew).trans hz28) HB7.out)
      go_wp2_with fail
      refine HK.out _ _ hz28 ?_
      clear HK K
      refine blkStep (fun K HK => ?_)
      simp only [PK]
      go_wp2_with fail
      refine HK.out _ _ ?_
      clear HK K
      refine oneStep (fun K HK => ?_)
      simp only [PK]
      go_wp2_with fail
      refine (i_ValidPart t _ _ dn _ _ (rA.ext (((((((((((((((((((((((((((((((((((hx1.trans hz2).trans hx2).trans hz3).trans hx3).trans hz4).trans hx4).trans hz5).trans hx5).trans hz6).trans ((Ext.refl _).drew)).trans hz7).trans hz8).trans hz9).trans hz10).trans hz11).trans hz12).trans hz13).trans hz14).trans hz15).trans hz16).trans hz17).trans hz18).trans hz19).trans hz20).trans hz21).trans hz22).trans hz23).trans ((Ext.refl _).drew)).trans hz25).trans hz26).trans hx6).trans hz27).trans hx7).trans ((Ext.refl _).drew)).trans hz28)) (rL.ext (((((((((((((((((((((((((((((((((((hx1.trans hz2).trans hx2).trans hz3).trans hx3).trans hz4).trans hx4).trans hz5).trans hx5).trans hz6).trans ((Ext.refl _).drew)).trans hz7).trans hz8).trans hz9).trans hz10).trans hz11).trans hz12).trans hz13).trans hz14).trans hz15).trans hz16).trans hz17).trans hz18).trans hz19).trans hz20).trans hz21).trans hz22).trans hz23).trans ((Ext.refl _).drew)).trans hz25).trans hz26).trans hx6).trans hz27).trans hx7).trans ((Ext.refl _).drew)).trans hz28)) (rdn.ext ((hx7.trans ((Ext.refl _).drew)).trans hz28))).mono ?_
      rintro e w29 ⟨rfl, hz29⟩
      try clear cf193
      try clear cf194
      try clear cf195
      try clear cf196
      have cf197 := blk2 (Ext.block (((((((((((((((((((((((((((((((((((hz2.trans hx2).trans hz3).trans hx3).trans hz4).trans hx4).trans hz5).trans hx5).trans hz6).trans ((Ext.refl _).drew)).trans hz7).trans hz8).trans hz9).trans hz10).trans hz11).trans hz12).trans hz13).trans hz14).trans hz15).trans hz16).trans hz17).trans hz18).trans hz19).trans hz20).trans hz21).trans hz22).trans hz23).trans ((Ext.refl _).drew)).trans hz25).trans hz26).trans hx6).trans hz27).trans hx7).trans ((Ext.refl _).drew)).trans hz28).trans hz29) HB1.out.1)
      have cf198 := blk3 (Ext.block (((((((((((((((((((((((((((((((((((hz2.trans hx2).trans hz3).trans hx3).trans hz4).trans hx4).trans hz5).trans hx5).trans hz6).trans ((Ext.refl _).drew)).trans hz7).trans hz8).trans hz9).trans hz10).trans hz11).trans hz12).trans hz13).trans hz14).trans hz15).trans hz16).trans hz17).trans hz18).trans hz19).trans hz20).trans hz21).trans hz22).trans hz23).trans ((Ext.refl _).drew)).trans hz25).trans hz26).trans hx6).trans hz27).trans hx7).trans ((Ext.refl _).drew)).trans hz28).trans hz29) HB1.out.2)
      have cf199 := blk4 (Ext.block ((((hz27.trans hx7).trans ((Ext.refl _).drew)).trans hz28).trans hz29) HB6.out)
      have cf200 := blk4 (Ext.block ((((Ext.refl _).drew).trans hz28).trans hz29) HB7.out)
      go_wp2_with fail
      refine HK.out _ _ hz29 ?_
      clear HK K
      refine blkStep (fun K HK => ?_)
      simp only [PK]
      go_wp2_with fail
      refine HK.out _ _ ?_
      clear HK K
      refine oneStep (fun K HK => ?_)
      simp only [PK]
      go_wp2_with fail
      refine (i_VerifyPart t _ _ up _ _ (rA.ext ((((((((((((((((((((((((((((((((((((hx1.trans hz2).trans hx2).trans hz3).trans hx3).trans hz4).trans hx4).trans hz5).trans hx5).trans hz6).trans ((Ext.refl _).drew)).trans hz7).trans hz8).trans hz9).trans hz10).trans hz11).trans hz12).trans hz13).trans hz14).trans hz15).trans hz16).trans hz17).trans hz18).trans hz19).trans hz20).trans hz21).trans hz22).trans hz23).trans ((Ext.refl _).drew)).trans hz25).trans hz26).trans hx6).trans hz27).trans hx7).trans ((Ext.refl _).drew)).trans hz28).trans hz29)) (rup.ext (((((hx6.trans hz27).trans hx7).trans ((Ext.refl _).drew)).trans hz28).trans hz29))).mono ?_
      rintro e w30 ⟨rfl, hz30⟩
      try clear cf197
      try clear cf198
      try clear cf199
      try clear cf200
      have cf201 := blk2 (Ext.block ((((((((((((((((((((((((((((((((((((hz2.trans hx2).trans hz3).trans hx3).trans hz4).trans hx4).trans hz5).trans hx5).trans hz6).trans ((Ext.refl _).drew)).trans hz7).trans hz8).trans hz9).trans hz10).trans hz11).trans hz12).trans hz13).trans hz14).trans hz15).trans hz16).trans hz17).trans hz18).trans hz19).trans hz20).trans hz21).trans hz22).trans hz23).trans ((Ext.refl _).drew)).trans hz25).trans hz26).trans hx6).trans hz27).trans hx7).trans ((Ext.refl _).drew)).trans hz28).trans hz29).trans hz30) HB1.out.1)
      have cf202 := blk3 (Ext.block ((((((((((((((((((((((((((((((((((((hz2.trans hx2).trans hz3).trans hx3).trans hz4).trans hx4).trans hz5).trans hx5).trans hz6).trans ((Ext.refl _).drew)).trans hz7).trans hz8).trans hz9).trans hz10).trans hz11).trans hz12).trans hz13).trans hz14).trans hz15).trans hz16).trans hz17).trans hz18).trans hz19).trans hz20).trans hz21).trans hz22).trans hz23).trans ((Ext.refl _).drew)).trans hz25).trans hz26).trans hx6).trans hz27).trans hx7).trans ((Ext.refl _).drew)).trans hz28).trans hz29).trans hz30) HB1.out.2)
      have cf203 := blk4 (Ext.block (((((hz27.trans hx7).trans ((Ext.refl _).drew)).trans hz28).trans hz29).trans hz30) HB6.out)
      have cf204 := blk4 (Ext.block (((((Ext.refl _).drew).trans hz28).trans hz29).trans hz30) HB7.out)
      go_wp2_with fail
      refine HK.out _ _ hz30 ?_
      clear HK K
      refine blkStep (fun K HK => ?_)
      simp only [PK]
      go_wp2_with fail
      refine HK.out _ _ ?_
      clear HK K
      refine oneStep (fun K HK => ?_)
      simp only [PK]
      go_wp2_with fail
      refine (i_VerifyPart t _ _ dn _ _ (rA.ext (((((((((((((((((((((((((((((((((((((hx1.trans hz2).trans hx2).trans hz3).trans hx3).trans hz4).trans hx4).trans hz5).trans hx5).trans hz6).trans ((Ext.refl _).drew)).trans hz7).trans hz8).trans hz9).trans hz10).trans hz11).trans hz12).trans hz13).trans hz14).trans hz15).trans hz16).trans hz17).trans hz18).trans hz19).trans hz20).trans hz21).trans hz22).trans hz23).trans ((Ext.refl _).drew)).trans hz25).trans hz26).trans hx6).trans hz27).trans hx7).trans ((Ext.refl _).drew)).trans hz28).trans hz29).trans hz30)) (rdn.ext ((((hx7.trans ((Ext.refl _).drew)).trans hz28).trans hz29).trans hz30))).mono ?_
      rintro e w31 ⟨rfl, hz31⟩
      try clear cf201
      try clear cf202
      try clear cf203
      try clear cf204
      have cf205 := blk2 (Ext.block (((((((((((((((((((((((((((((((((((((hz2.trans hx2).trans hz3).trans hx3).trans hz4).trans hx4).trans hz5).trans hx5).trans hz6).trans ((Ext.refl _).drew)).trans hz7).trans hz8).trans hz9).trans hz10).trans hz11).trans hz12).trans hz13).trans hz14).trans hz15).trans hz16).trans hz17).trans hz18).trans hz19).trans hz20).trans hz21).trans hz22).trans hz23).trans ((Ext.refl _).drew)).trans hz25).trans hz26).trans hx6).trans hz27).trans hx7).trans ((Ext.refl _).drew)).trans hz28).trans hz29).trans hz30).trans hz31) HB1.out.1)
      have cf206 := blk3 (Ext.block (((((((((((((((((((((((((((((((((((((hz2.trans hx2).trans hz3).trans hx3).trans hz4).trans hx4).trans hz5).trans hx5).trans hz6).trans ((Ext.refl _).drew)).trans hz7).trans hz8).trans hz9).trans hz10).trans hz11).trans hz12).trans hz13).trans hz14).trans hz15).trans hz16).trans hz17).trans hz18).trans hz19).trans hz20).trans hz21).trans hz22).trans hz23).trans ((Ext.refl _).drew)).trans hz25).trans hz26).trans hx6).trans hz27).trans hx7).trans ((Ext.refl _).drew)).trans hz28).trans hz29).trans hz30).trans hz31) HB1.out.2)
      have cf207 := blk4 (Ext.block ((((((hz27.trans hx7).trans ((Ext.refl _).drew)).trans hz28).trans hz29).trans hz30).trans hz31) HB6.out)
      have cf208 := blk4 (Ext.block ((((((Ext.refl _).drew).trans hz28).trans hz29).trans hz30).trans hz31) HB7.out)
      go_wp2_with fail
      refine HK.out _ _ hz31 ?_
      clear HK K
      refine blkStep (fun K HK => ?_)
      simp only [PK]
      go_wp2_with fail
      refine HK.out _ _ ?_
      clear HK K
      refine oneStep (fun K HK => ?_)
      simp only [PK]
      go_wp2_with fail
      refine (i_BetaAfter dn _ (dn.hops.length : Int) _ (rdn.ext (((((hx7.trans ((Ext.refl _).drew)).trans hz28).trans hz29).trans hz30).trans hz31))).mono ?_
      rintro e w32 ⟨rfl, hz32⟩
      try clear cf205
      try clear cf206
      try clear cf207
      try clear cf208
      have cf209 := blk2 (Ext.block ((((((((((((((((((((((((((((((((((((((hz2.trans hx2).trans hz3).trans hx3).trans hz4).trans hx4).trans hz5).trans hx5).trans hz6).trans ((Ext.refl _).drew)).trans hz7).trans hz8).trans hz9).trans hz10).trans hz11).trans hz12).trans hz13).trans hz14).trans hz15).trans hz16).trans hz17).trans hz18).trans hz19).trans hz20).trans hz21).trans hz22).trans hz23).trans ((Ext.refl _).drew)).trans hz25).trans hz26).trans hx6).trans hz27).trans hx7).trans ((Ext.refl _).drew)).trans hz28).trans hz29).trans hz30).trans hz31).trans hz32) HB1.out.1)
      have cf210 := blk3 (Ext.block ((((((((((((((((((((((((((((((((((((((hz2.trans hx2).trans hz3).trans hx3).trans hz4).trans hx4).trans hz5).trans hx5).trans hz6).trans ((Ext.refl _).drew)).trans hz7).trans hz8).trans hz9).trans hz10).trans hz11).trans hz12).trans hz13).trans hz14).trans hz15).trans hz16).trans hz17).trans hz18).trans hz19).trans hz20).trans hz21).trans hz22).trans hz23).trans ((Ext.refl _).drew)).trans hz25).trans hz26).trans hx6).trans hz27).trans hx7).trans ((Ext.refl _).drew)).trans hz28).trans hz29).trans hz30).trans hz31).trans hz32) HB1.out.2)
      have cf211 := blk4 (Ext.block (((((((hz27.trans hx7).trans ((Ext.refl _).drew)).trans hz28).trans hz29).trans hz30).trans hz31).trans hz32) HB6.out)
      have cf212 := blk4 (Ext.block (((((((Ext.refl _).drew).trans hz28).trans hz29).trans hz30).trans hz31).trans hz32) HB7.out)
      go_wp2_with fail
      refine HK.out _ _ hz32 ?_
      clear HK K
      refine blkStep (fun K HK => ?_)
      simp only [PK]
      go_wp2_with fail
      refine HK.out _ _ ?_
      clear HK K
      refine oneStep (fun K HK => ?_)
      simp only [PK]
      go_wp2_with fail
      refine (i_BetaAfter up _ (up.hops.length : Int) _ (rup.ext ((((((((hx6.trans hz27).trans hx7).trans ((Ext.refl _).drew)).trans hz28).trans hz29).trans hz30).trans hz31).trans hz32))).mono ?_
      rintro e w33 ⟨rfl, hz33⟩
      try clear cf209
      try clear cf210
      try clear cf211
      try clear cf212
      have cf213 := blk2 (Ext.block (((((((((((((((((((((((((((((((((((((((hz2.trans hx2).trans hz3).trans hx3).trans hz4).trans hx4).trans hz5).trans hx5).trans hz6).trans ((Ext.refl _).drew)).trans hz7).trans hz8).trans hz9).trans hz10).trans hz11).trans hz12).trans hz13).trans hz14).trans hz15).trans hz16).trans hz17).trans hz18).trans hz19).trans hz20).trans hz21).trans hz22).trans hz23).trans ((Ext.refl _).drew)).trans hz25).trans hz26).trans hx6).trans hz27).trans hx7).trans ((Ext.refl _).drew)).trans hz28).trans hz29).trans hz30).trans hz31).trans hz32).trans hz33) HB1.out.1)
      have cf214 := blk3 (Ext.block (((((((((((((((((((((((((((((((((((((((hz2.trans hx2).trans hz3).trans hx3).trans hz4).trans hx4).trans hz5).trans hx5).trans hz6).trans ((Ext.refl _).drew)).trans hz7).trans hz8).trans hz9).trans hz10).trans hz11).trans hz12).trans hz13).trans hz14).trans hz15).trans hz16).trans hz17).trans hz18).trans hz19).trans hz20).trans hz21).trans hz22).trans hz23).trans ((Ext.refl _).drew)).trans hz25).trans hz26).trans hx6).trans hz27).trans hx7).trans ((Ext.refl _).drew)).trans hz28).trans hz29).trans hz30).trans hz31).trans hz32).trans hz33) HB1.out.2)
      have cf215 := blk4 (Ext.block ((((((((hz27.trans hx7).trans ((Ext.refl _).drew)).trans hz28).trans hz29).trans hz30).trans hz31).trans hz32).trans hz33) HB6.out)
      have cf216 := blk4 (Ext.block ((((((((Ext.refl _).drew).trans hz28).trans hz29).trans hz30).trans hz31).trans hz32).trans hz33) HB7.out)
      go_wp2_with fail
      refine HK.out _ _ hz33 ?_
      clear HK K
      refine blkStep (fun K HK => ?_)
      simp only [PK]
      go_wp2_with fail
      refine HK.out _ _ ?_
      clear HK K
      refine doneStep (by kernel_rfl) ?_
      go_wp2_with fail
      go_ret
      exact ⟨rfl, (((((((((((((((((((((((((((((((((((((((((hz1.trans hx1).trans hz2).trans hx2).trans hz3).trans hx3).trans hz4).trans hx4).trans hz5).trans hx5).trans hz6).trans ((Ext.refl _).drew)).trans hz7).trans hz8).trans hz9).trans hz10).trans hz11).trans hz12).trans hz13).trans hz14).trans hz15).trans hz16).trans hz17).trans hz18).trans hz19).trans hz20).trans hz21).trans hz22).trans hz23).trans ((Ext.refl _).drew)).trans hz25).trans hz26).trans hx6).trans hz27).trans hx7).trans ((Ext.refl _).drew)).trans hz28).trans hz29).trans hz30).trans hz31).trans hz32).trans hz33)⟩

end Go.Proofs.Ytikbeiafobnblaa
