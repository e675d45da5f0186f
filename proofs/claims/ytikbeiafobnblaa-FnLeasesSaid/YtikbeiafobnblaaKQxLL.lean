/- The walk of the law on leases: a path is reserved at all of its interfaces, or nothing has changed. No condition. -/
import Derived.Test.YtikbeiafobnblaaKQ46
import Derived.Test.YtikbeiafobnblaaKQ49
namespace Go.Proofs.Ytikbeiafobnblaa
open Go.ChangeShapes Go.WideShapes Go.ChangeAt Go.RowKit Go.Deep

theorem reserve_no {rs : List Resv} {id : Int} {y : Pth} {rate till c now : Int} (h : (reservePath rs id y rate till c now).2 = false) : (reservePath rs id y rate till c now).1 = rs := by
 unfold reservePath at h ⊢
 cases hg : rsvGo id rate till c now (egSteps (pathSteps y.parts)) rs with
 | none => rfl
 | some out =>
  rw [hg] at h
  simp only at h ⊢
  have h0 : (egSteps (pathSteps y.parts)).length = 0 := by simpa using h
  rw [List.eq_nil_of_length_eq_zero h0] at hg
  cases hg; rfl
theorem hasI_iff {l : List Int} {n : Int} : hasI l n = true ↔ n ∈ l := by
 unfold hasI
 rw [List.any_eq_true]
 constructor
 ·
  rintro ⟨x, hx, h⟩; rw [← beq_iff_eq.1 h]; exact hx
 ·
  intro h; exact ⟨n, h, by simp⟩
theorem hasI_no {l : List Int} {n : Int} (h : ¬ n ∈ l) : hasI l n = false := by
 cases h1 : hasI l n
 ·
  rfl
 ·
  exact absurd (hasI_iff.1 h1) h
theorem release_len (id : Int) (l : List Resv) : (release id l).length ≤ l.length := List.length_filter_le _ _

set_option maxRecDepth 100000 in
set_option maxHeartbeats 20000000 in
theorem l_FnLeases (code : List Int) (cv : Value) (w : World) (hr : RdS Rep.byte w cv code) (hu : ∀ x ∈ code, U8 x) :
  Calls Try.prog 6 #[cv] w fun e w' => e = .returned (.bool true) ∧ Ext w w' := by
 obtain ⟨co, cc, rfl, _⟩ := hr.shape
 by_cases hbig : 1048576 < code.length
 ·
  have hb1 : decide (1048576 < code.length) = true := by simpa using hbig
  have HB1 := Lib.hid hb1; clear hb1
  go_enter Try.func6, Try.ntmps6
  go_wp2_with fail
  refine (l_big code _ _ hr).mono ?_
  rintro e _ ⟨rfl, rfl⟩
  rw [HB1.out]
  go_wp2_with fail
  go_ret
  exact ⟨rfl, Ext.refl _⟩
 have hb1 : decide (1048576 < code.length) = false := by simpa using hbig
 have hl : code.length ≤ 1048576 := by omega
 have HB1 := Lib.hid hb1; clear hb1 hbig
 go_enter Try.func6, Try.ntmps6
 go_wp2_with fail
 refine (l_big code _ _ hr).mono ?_
 rintro e _ ⟨rfl, rfl⟩
 rw [HB1.out]
 go_wp2_with fail
 refine (s_DrawReservePath code _ _ (hr.ext (Ext.refl _)) hu hl).mono ?_
 rintro e w1 ⟨vl, vp, l, p, id, rate, till, c, rfl, hl50, hp4, hx5, hi1, hi5, rQ, rP, hz1⟩
 obtain ⟨o_Q, c_Q, rfl, _⟩ := rQ.shape
 obtain ⟨o_P, c_P, rfl, _⟩ := rP.shape
 have hps := pth_size hp4 hx5
 clear hp4 hx5
 have hx1 : Ext w1 (w1.alloc (.cells #[.slice o_P p.parts.length c_P] 46)) := (Ext.refl _).alloc _
 have HB1 := Lib.hid (blk_new w1 (.cells #[.slice o_P p.parts.length c_P] 46))
 have cf1 := blk1 HB1.out
 go_wp2_with fail
 refine (i_ReservePath l _ id p _ rate till c 45 _ (rQ.ext hx1) (rP.ext hx1) (by omega) (by omega)).mono ?_
 rintro e w2 ⟨vx, rfl, OX, hz2⟩
 have rX := OwnF.rd (hf := Resv.flen) OX
 clear OX
 obtain ⟨x, hx⟩ : ∃ x, x = (reservePath l id p rate till c 45) := ⟨_, rfl⟩
 rw [← hx] at rX ⊢
 have hxl : x.1.length ≤ 50 := by rw [hx]; have h1 := reserve_max l id p rate till c 45; omega
 have HX := Lib.hid hx
 clear hx
 obtain ⟨o_X, c_X, rfl, _⟩ := rX.shape
 try clear cf1
 have cf2 := blk1 (Ext.block hz2 HB1.out)
 go_wp2_with fail
 refine (s_ReservePath l _ id p _ rate till c 45 _ (rQ.ext (hx1.trans hz2)) (rP.ext (hx1.trans hz2)) (by omega) (by omega)).mono ?_
 rintro e w3 ⟨vy, rfl, OX, hz3⟩
 have rY := OwnF.rd (hf := Resv.flen) OX
 clear OX
 rw [← HX.out] at rY ⊢
 obtain ⟨o_Y, c_Y, rfl, _⟩ := rY.shape
 try clear cf2
 have cf3 := blk1 (Ext.block (hz2.trans hz3) HB1.out)
 go_wp2_with fail
 refine (s_DrawPathReserved code _ _ (hr.ext (((hz1.trans hx1).trans hz2).trans hz3)) hu hl).mono ?_
 rintro e w4 ⟨va, vq, a, q, ib, when, rfl, ha50, hq4, hq5, rA, rB, hz4⟩
 obtain ⟨o_A, c_A, rfl, _⟩ := rA.shape
 obtain ⟨o_B, c_B, rfl, _⟩ := rB.shape
 have hqs := pth_size hq4 hq5
 clear hq4 hq5
 have hx2 : Ext w4 (w4.alloc (.cells #[.slice o_B q.parts.length c_B] 46)) := (Ext.refl _).alloc _
 have HB2 := Lib.hid (blk_new w4 (.cells #[.slice o_B q.parts.length c_B] 46))
 try clear cf3
 have cf4 := blk1 (Ext.block (((hz2.trans hz3).trans hz4).trans hx2) HB1.out)
 have cf5 := blk1 HB2.out
 go_wp2_with fail
 refine (s_DrawAvailableRate code _ _ (hr.ext (((((hz1.trans hx1).trans hz2).trans hz3).trans hz4).trans hx2)) hu hl).mono ?_
 rintro e w5 ⟨vc, vr, cc, r, cap, rfl, hc50, hr4, hr5, rC, rR, hz5⟩
 obtain ⟨o_C, c_C, rfl, _⟩ := rC.shape
 obtain ⟨o_R, c_R, rfl, _⟩ := rR.shape
 have hrs := pth_size hr4 hr5
 clear hr4 hr5
 have hx3 : Ext w5 (w5.alloc (.cells #[.slice o_R r.parts.length c_R] 46)) := (Ext.refl _).alloc _
 have HB3 := Lib.hid (blk_new w5 (.cells #[.slice o_R r.parts.length c_R] 46))
 try clear cf4
 try clear cf5
 have cf6 := blk1 (Ext.block (((((hz2.trans hz3).trans hz4).trans hx2).trans hz5).trans hx3) HB1.out)
 have cf7 := blk1 (Ext.block (hz5.trans hx3) HB2.out)
 have cf8 := blk1 HB3.out
 go_wp2_with fail
 refine (s_DrawReservationIDs code _ _ (hr.ext (((((((hz1.trans hx1).trans hz2).trans hz3).trans hz4).trans hx2).trans hz5).trans hx3)) hu hl).mono ?_
 rintro e w6 ⟨vd, d, rfl, hd50, rD, hz6⟩
 obtain ⟨o_D, c_D, rfl, _⟩ := rD.shape
 try clear cf6
 try clear cf7
 try clear cf8
 have cf9 := blk1 (Ext.block ((((((hz2.trans hz3).trans hz4).trans hx2).trans hz5).trans hx3).trans hz6) HB1.out)
 have cf10 := blk1 (Ext.block ((hz5.trans hx3).trans hz6) HB2.out)
 have cf11 := blk1 (Ext.block hz6 HB3.out)
 go_wp2_with fail
 refine (s_DrawEqualReservations code _ _ (hr.ext ((((((((hz1.trans hx1).trans hz2).trans hz3).trans hz4).trans hx2).trans hz5).trans hx3).trans hz6)) hu hl).mono ?_
 rintro e w7 ⟨ve, vf, e1, f1, rfl, he50, hf50, rE, rF, hz7⟩
 obtain ⟨o_E, c_E, rfl, _⟩ := rE.shape
 obtain ⟨o_F, c_F, rfl, _⟩ := rF.shape
 have hne1 : decide (x.1 = x.1) = true := by simp
 have hne2 : (x.2 != x.2) = false := by simp
 have hne3 : (pathResvd a ib q when != pathResvd a ib q when) = false := by simp
 have hne4 : (pathRate a ib q when != pathRate a ib q when) = false := by simp
 have hne5 : (availRate cc r cap 45 != availRate cc r cap 45) = false := by simp
 have hne6 : decide (idsOf d = idsOf d) = true := by simp
 have hne7 : (decide (e1 = f1) != decide (e1 = f1)) = false := by simp
 have hne8 : decide (egSteps (pathSteps q.parts) = egSteps (pathSteps q.parts)) = true := by simp
 try clear cf9
 try clear cf10
 try clear cf11
 have cf12 := blk1 (Ext.block (((((((hz2.trans hz3).trans hz4).trans hx2).trans hz5).trans hx3).trans hz6).trans hz7) HB1.out)
 have cf13 := blk1 (Ext.block (((hz5.trans hx3).trans hz6).trans hz7) HB2.out)
 have cf14 := blk1 (Ext.block (hz6.trans hz7) HB3.out)
 go_wp2_with fail
 simp only [List.append_eq, List.cons_append, List.nil_append]
 refine planStep (.blk [0, 1] (.one 2 (.blk [3, 4, 5, 6, 7, 8, 9, 10, 11, 12, 13, 15, 16, 17, 18] (.one 14 (.one 19 (.blk [20, 21, 22, 23, 24, 25, 26, 28, 29, 30, 31] (.one 27 (.one 32 (.blk [33, 34, 35, 36, 37, 38, 39, 41, 42, 43, 44] (.one 40 (.one 45 (.blk [46, 47, 48, 49, 51] (.one 50 (.one 52 (.one 53 (.blk [54, 55, 56, 57, 58, 60, 61] (.one 59 (.one 62 (.blk [63, 64, 65, 66, 68] (.one 67 (.one 69 (.one 70 (.blk [71, 72] .done))))))))))))))))))))))) [] (by kernel_rfl) (by as_aux_lemma => kernel_rfl) ?_
 try clear cf12
 try clear cf13
 try clear cf14
 have cf15 := blk1 (Ext.block ((((((((hz2.trans hz3).trans hz4).trans hx2).trans hz5).trans hx3).trans hz6).trans hz7).trans ((Ext.refl _).drew)) HB1.out)
 have cf16 := blk1 (Ext.block ((((hz5.trans hx3).trans hz6).trans hz7).trans ((Ext.refl _).drew)) HB2.out)
 have cf17 := blk1 (Ext.block ((hz6.trans hz7).trans ((Ext.refl _).drew)) HB3.out)
 refine blkStep (fun K HK => ?_)
 simp only [PK]
 go_wp2_with fail
 refine HK.out _ _ ?_
 clear HK K
 refine oneStep (fun K HK => ?_)
 simp only [PK]
 go_wp2_with fail
 refine (l_sameShares x.1 _ x.1 _ _ (rX.ext (((((((hz3.trans hz4).trans hx2).trans hz5).trans hx3).trans hz6).trans hz7).trans ((Ext.refl _).drew))) (rY.ext ((((((hz4.trans hx2).trans hz5).trans hx3).trans hz6).trans hz7).trans ((Ext.refl _).drew)))).mono ?_
 rintro e w8 ⟨rfl, hz8⟩
 try clear cf15
 try clear cf16
 try clear cf17
 have cf18 := blk1 (Ext.block (((((((((hz2.trans hz3).trans hz4).trans hx2).trans hz5).trans hx3).trans hz6).trans hz7).trans ((Ext.refl _).drew)).trans hz8) HB1.out)
 have cf19 := blk1 (Ext.block (((((hz5.trans hx3).trans hz6).trans hz7).trans ((Ext.refl _).drew)).trans hz8) HB2.out)
 have cf20 := blk1 (Ext.block (((hz6.trans hz7).trans ((Ext.refl _).drew)).trans hz8) HB3.out)
 go_wp2_with fail
 refine HK.out _ _ hz8 ?_
 clear HK K
 refine blkStep (fun K HK => ?_)
 simp only [PK]
 go_wp2_with fail
 refine HK.out _ _ ?_
 clear HK K
 refine oneStep (fun K HK => ?_)
 simp only [PK]
 go_wp2_with fail
 refine (i_PathReserved a _ ib q _ when _ (rA.ext ((((((hx2.trans hz5).trans hx3).trans hz6).trans hz7).trans ((Ext.refl _).drew)).trans hz8)) (rB.ext ((((((hx2.trans hz5).trans hx3).trans hz6).trans hz7).trans ((Ext.refl _).drew)).trans hz8)) (by omega)).mono ?_
 rintro e w9 ⟨rfl, hz9⟩
 try clear cf18
 try clear cf19
 try clear cf20
 have cf21 := blk1 (Ext.block ((((((((((hz2.trans hz3).trans hz4).trans hx2).trans hz5).trans hx3).trans hz6).trans hz7).trans ((Ext.refl _).drew)).trans hz8).trans hz9) HB1.out)
 have cf22 := blk1 (Ext.block ((((((hz5.trans hx3).trans hz6).trans hz7).trans ((Ext.refl _).drew)).trans hz8).trans hz9) HB2.out)
 have cf23 := blk1 (Ext.block ((((hz6.trans hz7).trans ((Ext.refl _).drew)).trans hz8).trans hz9) HB3.out)
 go_wp2_with fail
 refine HK.out _ _ hz9 ?_
 clear HK K
 refine oneStep (fun K HK => ?_)
 simp only [PK]
 go_wp2_with fail
 refine (s_PathReserved a _ ib q _ when _ (rA.ext (((((((hx2.trans hz5).trans hx3).trans hz6).trans hz7).trans ((Ext.refl _).drew)).trans hz8).trans hz9)) (rB.ext (((((((hx2.trans hz5).trans hx3).trans hz6).trans hz7).trans ((Ext.refl _).drew)).trans hz8).trans hz9)) (by omega)).mono ?_
 rintro e w10 ⟨rfl, hz10⟩
 try clear cf21
 try clear cf22
 try clear cf23
 have cf24 := blk1 (Ext.block (((((((((((hz2.trans hz3).trans hz4).trans hx2).trans hz5).trans hx3).trans hz6).trans hz7).trans ((Ext.refl _).drew)).trans hz8).trans hz9).trans hz10) HB1.out)
 have cf25 := blk1 (Ext.block (((((((hz5.trans hx3).trans hz6).trans hz7).trans ((Ext.refl _).drew)).trans hz8).trans hz9).trans hz10) HB2.out)
 have cf26 := blk1 (Ext.block (((((hz6.trans hz7).trans ((Ext.refl _).drew)).trans hz8).trans hz9).trans hz10) HB3.out)
 go_wp2_with fail
 refine HK.out _ _ hz10 ?_
 clear HK K
 as_aux_lemma =>
  refine blkStep (fun K HK => ?_)
  simp only [PK]
  go_wp2_with fail
  refine HK.out _ _ ?_
  clear HK K
  refine oneStep (fun K HK => ?_)
  simp only [PK]
  go_wp2_with fail
  refine (i_PathRate a _ ib q _ when _ (rA.ext ((((((((hx2.trans hz5).trans hx3).trans hz6).trans hz7).trans ((Ext.refl _).drew)).trans hz8).trans hz9).trans hz10)) (rB.ext ((((((((hx2.trans hz5).trans hx3).trans hz6).trans hz7).trans ((Ext.refl _).drew)).trans hz8).trans hz9).trans hz10)) (by omega)).mono ?_
  rintro e w11 ⟨rfl, hz11⟩
  try clear cf24
  try clear cf25
  try clear cf26
  have cf27 := blk1 (Ext.block ((((((((((((hz2.trans hz3).trans hz4).trans hx2).trans hz5).trans hx3).trans hz6).trans hz7).trans ((Ext.refl _).drew)).trans hz8).trans hz9).trans hz10).trans hz11) HB1.out)
  have cf28 := blk1 (Ext.block ((((((((hz5.trans hx3).trans hz6).trans hz7).trans ((Ext.refl _).drew)).trans hz8).trans hz9).trans hz10).trans hz11) HB2.out)
  have cf29 := blk1 (Ext.block ((((((hz6.trans hz7).trans ((Ext.refl _).drew)).trans hz8).trans hz9).trans hz10).trans hz11) HB3.out)
  go_wp2_with fail
  refine HK.out _ _ hz11 ?_
  clear HK K
  refine oneStep (fun K HK => ?_)
  simp only [PK]
  go_wp2_with fail
  refine (s_PathRate a _ ib q _ when _ (rA.ext (((((((((hx2.trans hz5).trans hx3).trans hz6).trans hz7).trans ((Ext.refl _).drew)).trans hz8).trans hz9).trans hz10).trans hz11)) (rB.ext (((((((((hx2.trans hz5).trans hx3).trans hz6).trans hz7).trans ((Ext.refl _).drew)).trans hz8).trans hz9).trans hz10).trans hz11)) (by omega)).mono ?_
  rintro e w12 ⟨rfl, hz12⟩
  try clear cf27
  try clear cf28
  try clear cf29
  have cf30 := blk1 (Ext.block (((((((((((((hz2.trans hz3).trans hz4).trans hx2).trans hz5).trans hx3).trans hz6).trans hz7).trans ((Ext.refl _).drew)).trans hz8).trans hz9).trans hz10).trans hz11).trans hz12) HB1.out)
  have cf31 := blk1 (Ext.block (((((((((hz5.trans hx3).trans hz6).trans hz7).trans ((Ext.refl _).drew)).trans hz8).trans hz9).trans hz10).trans hz11).trans hz12) HB2.out)
  have cf32 := blk1 (Ext.block (((((((hz6.trans hz7).trans ((Ext.refl _).drew)).trans hz8).trans hz9).trans hz10).trans hz11).trans hz12) HB3.out)
  go_wp2_with fail
  refine HK.out _ _ hz12 ?_
  clear HK K
  refine blkStep (fun K HK => ?_)
  simp only [PK]
  go_wp2_with fail
  refine HK.out _ _ ?_
  clear HK K
  refine oneStep (fun K HK => ?_)
  simp only [PK]
  go_wp2_with fail
  refine (i_AvailableRate cc _ r _ cap 45 _ (rC.ext ((((((((hx3.trans hz6).trans hz7).trans ((Ext.refl _).drew)).trans hz8).trans hz9).trans hz10).trans hz11).trans hz12)) (rR.ext ((((((((hx3.trans hz6).trans hz7).trans ((Ext.refl _).drew)).trans hz8).trans hz9).trans hz10).trans hz11).trans hz12)) (by omega)).mono ?_
  rintro e w13 ⟨rfl, hz13⟩
  try clear cf30
  try clear cf31
  try clear cf32
  have cf33 := blk1 (Ext.block ((((((((((((((hz2.trans hz3).trans hz4).trans hx2).trans hz5).trans hx3).trans hz6).trans hz7).trans ((Ext.refl _).drew)).trans hz8).trans hz9).trans hz10).trans hz11).trans hz12).trans hz13) HB1.out)
  have cf34 := blk1 (Ext.block ((((((((((hz5.trans hx3).trans hz6).trans hz7).trans ((Ext.refl _).drew)).trans hz8).trans hz9).trans hz10).trans hz11).trans hz12).trans hz13) HB2.out)
  have cf35 := blk1 (Ext.block ((((((((hz6.trans hz7).trans ((Ext.refl _).drew)).trans hz8).trans hz9).trans hz10).trans hz11).trans hz12).trans hz13) HB3.out)
  go_wp2_with fail
  refine HK.out _ _ hz13 ?_
  clear HK K
  refine oneStep (fun K HK => ?_)
  simp only [PK]
  go_wp2_with fail
  refine (s_AvailableRate cc _ r _ cap 45 _ (rC.ext (((((((((hx3.trans hz6).trans hz7).trans ((Ext.refl _).drew)).trans hz8).trans hz9).trans hz10).trans hz11).trans hz12).trans hz13)) (rR.ext (((((((((hx3.trans hz6).trans hz7).trans ((Ext.refl _).drew)).trans hz8).trans hz9).trans hz10).trans hz11).trans hz12).trans hz13)) (by omega)).mono ?_
  rintro e w14 ⟨rfl, hz14⟩
  try clear cf33
  try clear cf34
  try clear cf35
  have cf36 := blk1 (Ext.block (((((((((((((((hz2.trans hz3).trans hz4).trans hx2).trans hz5).trans hx3).trans hz6).trans hz7).trans ((Ext.refl _).drew)).trans hz8).trans hz9).trans hz10).trans hz11).trans hz12).trans hz13).trans hz14) HB1.out)
  have cf37 := blk1 (Ext.block (((((((((((hz5.trans hx3).trans hz6).trans hz7).trans ((Ext.refl _).drew)).trans hz8).trans hz9).trans hz10).trans hz11).trans hz12).trans hz13).trans hz14) HB2.out)
  have cf38 := blk1 (Ext.block (((((((((hz6.trans hz7).trans ((Ext.refl _).drew)).trans hz8).trans hz9).trans hz10).trans hz11).trans hz12).trans hz13).trans hz14) HB3.out)
  go_wp2_with fail
  refine HK.out _ _ hz14 ?_
  clear HK K
  as_aux_lemma =>
   refine blkStep (fun K HK => ?_)
   simp only [PK]
   go_wp2_with fail
   refine HK.out _ _ ?_
   clear HK K
   refine oneStep (fun K HK => ?_)
   simp only [PK]
   go_wp2_with fail
   refine (i_ReservationIDs d _ _ (rD.ext ((((((((hz7.trans ((Ext.refl _).drew)).trans hz8).trans hz9).trans hz10).trans hz11).trans hz12).trans hz13).trans hz14)) (by omega)).mono ?_
   rintro e w15 ⟨vi, rfl, ho, hz15⟩
   have ri := OwnF.rd (hf := intFlen) ho
   clear ho
   try clear cf36
   try clear cf37
   try clear cf38
   have cf39 := blk1 (Ext.block ((((((((((((((((hz2.trans hz3).trans hz4).trans hx2).trans hz5).trans hx3).trans hz6).trans hz7).trans ((Ext.refl _).drew)).trans hz8).trans hz9).trans hz10).trans hz11).trans hz12).trans hz13).trans hz14).trans hz15) HB1.out)
   have cf40 := blk1 (Ext.block ((((((((((((hz5.trans hx3).trans hz6).trans hz7).trans ((Ext.refl _).drew)).trans hz8).trans hz9).trans hz10).trans hz11).trans hz12).trans hz13).trans hz14).trans hz15) HB2.out)
   have cf41 := blk1 (Ext.block ((((((((((hz6.trans hz7).trans ((Ext.refl _).drew)).trans hz8).trans hz9).trans hz10).trans hz11).trans hz12).trans hz13).trans hz14).trans hz15) HB3.out)
   go_wp2_with fail
   refine HK.out _ _ hz15 ?_
   clear HK K
   refine oneStep (fun K HK => ?_)
   simp only [PK]
   go_wp2_with fail
   refine (s_ReservationIDs d _ _ (rD.ext (((((((((hz7.trans ((Ext.refl _).drew)).trans hz8).trans hz9).trans hz10).trans hz11).trans hz12).trans hz13).trans hz14).trans hz15)) (by omega)).mono ?_
   rintro e w16 ⟨vj, rfl, ho, hz16⟩
   have rj := OwnF.rd (hf := intFlen) ho
   clear ho
   try clear cf39
   try clear cf40
   try clear cf41
   have cf42 := blk1 (Ext.block (((((((((((((((((hz2.trans hz3).trans hz4).trans hx2).trans hz5).trans hx3).trans hz6).trans hz7).trans ((Ext.refl _).drew)).trans hz8).trans hz9).trans hz10).trans hz11).trans hz12).trans hz13).trans hz14).trans hz15).trans hz16) HB1.out)
   have cf43 := blk1 (Ext.block (((((((((((((hz5.trans hx3).trans hz6).trans hz7).trans ((Ext.refl _).drew)).trans hz8).trans hz9).trans hz10).trans hz11).trans hz12).trans hz13).trans hz14).trans hz15).trans hz16) HB2.out)
   have cf44 := blk1 (Ext.block (((((((((((hz6.trans hz7).trans ((Ext.refl _).drew)).trans hz8).trans hz9).trans hz10).trans hz11).trans hz12).trans hz13).trans hz14).trans hz15).trans hz16) HB3.out)
   go_wp2_with fail
   refine HK.out _ _ hz16 ?_
   clear HK K
   refine oneStep (fun K HK => ?_)
   simp only [PK]
   go_wp2_with fail
   refine (l_sameInts (idsOf d) _ (idsOf d) _ _ (ri.ext hz16) (rj.ext (Ext.refl _))).mono ?_
   rintro e w17 ⟨rfl, hz17⟩
   try clear cf42
   try clear cf43
   try clear cf44
   have cf45 := blk1 (Ext.block ((((((((((((((((((hz2.trans hz3).trans hz4).trans hx2).trans hz5).trans hx3).trans hz6).trans hz7).trans ((Ext.refl _).drew)).trans hz8).trans hz9).trans hz10).trans hz11).trans hz12).trans hz13).trans hz14).trans hz15).trans hz16).trans hz17) HB1.out)
   have cf46 := blk1 (Ext.block ((((((((((((((hz5.trans hx3).trans hz6).trans hz7).trans ((Ext.refl _).drew)).trans hz8).trans hz9).trans hz10).trans hz11).trans hz12).trans hz13).trans hz14).trans hz15).trans hz16).trans hz17) HB2.out)
   have cf47 := blk1 (Ext.block ((((((((((((hz6.trans hz7).trans ((Ext.refl _).drew)).trans hz8).trans hz9).trans hz10).trans hz11).trans hz12).trans hz13).trans hz14).trans hz15).trans hz16).trans hz17) HB3.out)
   go_wp2_with fail
   refine HK.out _ _ hz17 ?_
   clear HK K
   as_aux_lemma =>
    refine blkStep (fun K HK => ?_)
    simp only [PK]
    go_wp2_with fail
    refine HK.out _ _ ?_
    clear HK K
    refine oneStep (fun K HK => ?_)
    simp only [PK]
    go_wp2_with fail
    refine (i_EqualReservations e1 _ f1 _ _ (rE.ext ((((((((((((Ext.refl _).drew).trans hz8).trans hz9).trans hz10).trans hz11).trans hz12).trans hz13).trans hz14).trans hz15).trans hz16).trans hz17)) (rF.ext ((((((((((((Ext.refl _).drew).trans hz8).trans hz9).trans hz10).trans hz11).trans hz12).trans hz13).trans hz14).trans hz15).trans hz16).trans hz17))).mono ?_
    rintro e w18 ⟨rfl, hz18⟩
    try clear cf45
    try clear cf46
    try clear cf47
    have cf48 := blk1 (Ext.block (((((((((((((((((((hz2.trans hz3).trans hz4).trans hx2).trans hz5).trans hx3).trans hz6).trans hz7).trans ((Ext.refl _).drew)).trans hz8).trans hz9).trans hz10).trans hz11).trans hz12).trans hz13).trans hz14).trans hz15).trans hz16).trans hz17).trans hz18) HB1.out)
    have cf49 := blk1 (Ext.block (((((((((((((((hz5.trans hx3).trans hz6).trans hz7).trans ((Ext.refl _).drew)).trans hz8).trans hz9).trans hz10).trans hz11).trans hz12).trans hz13).trans hz14).trans hz15).trans hz16).trans hz17).trans hz18) HB2.out)
    have cf50 := blk1 (Ext.block (((((((((((((hz6.trans hz7).trans ((Ext.refl _).drew)).trans hz8).trans hz9).trans hz10).trans hz11).trans hz12).trans hz13).trans hz14).trans hz15).trans hz16).trans hz17).trans hz18) HB3.out)
    go_wp2_with fail
    refine HK.out _ _ hz18 ?_
    clear HK K
    refine oneStep (fun K HK => ?_)
    simp only [PK]
    go_wp2_with fail
    refine (l_sameShares e1 _ f1 _ _ (rE.ext (((((((((((((Ext.refl _).drew).trans hz8).trans hz9).trans hz10).trans hz11).trans hz12).trans hz13).trans hz14).trans hz15).trans hz16).trans hz17).trans hz18)) (rF.ext (((((((((((((Ext.refl _).drew).trans hz8).trans hz9).trans hz10).trans hz11).trans hz12).trans hz13).trans hz14).trans hz15).trans hz16).trans hz17).trans hz18))).mono ?_
    rintro e w19 ⟨rfl, hz19⟩
    try clear cf48
    try clear cf49
    try clear cf50
    have cf51 := blk1 (Ext.block ((((((((((((((((((((hz2.trans hz3).trans hz4).trans hx2).trans hz5).trans hx3).trans hz6).trans hz7).trans ((Ext.refl _).drew)).trans hz8).trans hz9).trans hz10).trans hz11).trans hz12).trans hz13).trans hz14).trans hz15).trans hz16).trans hz17).trans hz18).trans hz19) HB1.out)
    have cf52 := blk1 (Ext.block ((((((((((((((((hz5.trans hx3).trans hz6).trans hz7).trans ((Ext.refl _).drew)).trans hz8).trans hz9).trans hz10).trans hz11).trans hz12).trans hz13).trans hz14).trans hz15).trans hz16).trans hz17).trans hz18).trans hz19) HB2.out)
    have cf53 := blk1 (Ext.block ((((((((((((((hz6.trans hz7).trans ((Ext.refl _).drew)).trans hz8).trans hz9).trans hz10).trans hz11).trans hz12).trans hz13).trans hz14).trans hz15).trans hz16).trans hz17).trans hz18).trans hz19) HB3.out)
    go_wp2_with fail
    refine HK.out _ _ hz19 ?_
    clear HK K
    refine blkStep (fun K HK => ?_)
    simp only [PK]
    go_wp2_with fail
    refine HK.out _ _ ?_
    clear HK K
    refine oneStep (fun K HK => ?_)
    simp only [PK]
    go_wp2_with fail
    refine (i_EgressSteps q _ _ (rB.ext (((((((((((((((((hx2.trans hz5).trans hx3).trans hz6).trans hz7).trans ((Ext.refl _).drew)).trans hz8).trans hz9).trans hz10).trans hz11).trans hz12).trans hz13).trans hz14).trans hz15).trans hz16).trans hz17).trans hz18).trans hz19)) (by omega)).mono ?_
    rintro e w20 ⟨vs, rfl, ho, hz20⟩
    have rs := OwnF.rd (hf := Step.flen) ho
    clear ho
    try clear cf51
    try clear cf52
    try clear cf53
    have cf54 := blk1 (Ext.block (((((((((((((((((((((hz2.trans hz3).trans hz4).trans hx2).trans hz5).trans hx3).trans hz6).trans hz7).trans ((Ext.refl _).drew)).trans hz8).trans hz9).trans hz10).trans hz11).trans hz12).trans hz13).trans hz14).trans hz15).trans hz16).trans hz17).trans hz18).trans hz19).trans hz20) HB1.out)
    have cf55 := blk1 (Ext.block (((((((((((((((((hz5.trans hx3).trans hz6).trans hz7).trans ((Ext.refl _).drew)).trans hz8).trans hz9).trans hz10).trans hz11).trans hz12).trans hz13).trans hz14).trans hz15).trans hz16).trans hz17).trans hz18).trans hz19).trans hz20) HB2.out)
    have cf56 := blk1 (Ext.block (((((((((((((((hz6.trans hz7).trans ((Ext.refl _).drew)).trans hz8).trans hz9).trans hz10).trans hz11).trans hz12).trans hz13).trans hz14).trans hz15).trans hz16).trans hz17).trans hz18).trans hz19).trans hz20) HB3.out)
    go_wp2_with fail
    refine HK.out _ _ hz20 ?_
    clear HK K
    refine oneStep (fun K HK => ?_)
    simp only [PK]
    go_wp2_with fail
    refine (s_EgressSteps q _ _ (rB.ext ((((((((((((((((((hx2.trans hz5).trans hx3).trans hz6).trans hz7).trans ((Ext.refl _).drew)).trans hz8).trans hz9).trans hz10).trans hz11).trans hz12).trans hz13).trans hz14).trans hz15).trans hz16).trans hz17).trans hz18).trans hz19).trans hz20)) (by omega)).mono ?_
    rintro e w21 ⟨vt, rfl, ho, hz21⟩
    have rt := OwnF.rd (hf := Step.flen) ho
    clear ho
    try clear cf54
    try clear cf55
    try clear cf56
    have cf57 := blk1 (Ext.block ((((((((((((((((((((((hz2.trans hz3).trans hz4).trans hx2).trans hz5).trans hx3).trans hz6).trans hz7).trans ((Ext.refl _).drew)).trans hz8).trans hz9).trans hz10).trans hz11).trans hz12).trans hz13).trans hz14).trans hz15).trans hz16).trans hz17).trans hz18).trans hz19).trans hz20).trans hz21) HB1.out)
    have cf58 := blk1 (Ext.block ((((((((((((((((((hz5.trans hx3).trans hz6).trans hz7).trans ((Ext.refl _).drew)).trans hz8).trans hz9).trans hz10).trans hz11).trans hz12).trans hz13).trans hz14).trans hz15).trans hz16).trans hz17).trans hz18).trans hz19).trans hz20).trans hz21) HB2.out)
    have cf59 := blk1 (Ext.block ((((((((((((((((hz6.trans hz7).trans ((Ext.refl _).drew)).trans hz8).trans hz9).trans hz10).trans hz11).trans hz12).trans hz13).trans hz14).trans hz15).trans hz16).trans hz17).trans hz18).trans hz19).trans hz20).trans hz21) HB3.out)
    go_wp2_with fail
    refine HK.out _ _ hz21 ?_
    clear HK K
    refine oneStep (fun K HK => ?_)
    simp only [PK]
    go_wp2_with fail
    refine (l_sameSteps (egSteps (pathSteps q.parts)) _ (egSteps (pathSteps q.parts)) _ _ (rs.ext hz21) (rt.ext (Ext.refl _))).mono ?_
    rintro e w22 ⟨rfl, hz22⟩
    try clear cf57
    try clear cf58
    try clear cf59
    have cf60 := blk1 (Ext.block (((((((((((((((((((((((hz2.trans hz3).trans hz4).trans hx2).trans hz5).trans hx3).trans hz6).trans hz7).trans ((Ext.refl _).drew)).trans hz8).trans hz9).trans hz10).trans hz11).trans hz12).trans hz13).trans hz14).trans hz15).trans hz16).trans hz17).trans hz18).trans hz19).trans hz20).trans hz21).trans hz22) HB1.out)
    have cf61 := blk1 (Ext.block (((((((((((((((((((hz5.trans hx3).trans hz6).trans hz7).trans ((Ext.refl _).drew)).trans hz8).trans hz9).trans hz10).trans hz11).trans hz12).trans hz13).trans hz14).trans hz15).trans hz16).trans hz17).trans hz18).trans hz19).trans hz20).trans hz21).trans hz22) HB2.out)
    have cf62 := blk1 (Ext.block (((((((((((((((((hz6.trans hz7).trans ((Ext.refl _).drew)).trans hz8).trans hz9).trans hz10).trans hz11).trans hz12).trans hz13).trans hz14).trans hz15).trans hz16).trans hz17).trans hz18).trans hz19).trans hz20).trans hz21).trans hz22) HB3.out)
    go_wp2_with fail
    refine HK.out _ _ hz22 ?_
    clear HK K
    refine blkStep (fun K HK => ?_)
    simp only [PK]
    go_wp2_with fail
    refine HK.out _ _ ?_
    clear HK K
    refine doneStep (by kernel_rfl) ?_
    obtain ⟨xb, hxb⟩ : ∃ xb, xb = x.2 := ⟨_, rfl⟩
    rw [← hxb]
    have HXB := Lib.hid hxb
    clear hxb
    cases xb
    case false =>
     as_aux_lemma =>
      have hsame : decide (x.1 = l) = true := decide_eq_true (by rw [HX.out]; exact reserve_no (by rw [← HX.out]; exact HXB.out.symm))
      go_wp2_with fail
      refine (l_sameShares x.1 _ l _ _ (rX.ext ((((((((((((((((((((((hz3.trans hz4).trans hx2).trans hz5).trans hx3).trans hz6).trans hz7).trans ((Ext.refl _).drew)).trans hz8).trans hz9).trans hz10).trans hz11).trans hz12).trans hz13).trans hz14).trans hz15).trans hz16).trans hz17).trans hz18).trans hz19).trans hz20).trans hz21).trans hz22)) (rQ.ext ((((((((((((((((((((((((hx1.trans hz2).trans hz3).trans hz4).trans hx2).trans hz5).trans hx3).trans hz6).trans hz7).trans ((Ext.refl _).drew)).trans hz8).trans hz9).trans hz10).trans hz11).trans hz12).trans hz13).trans hz14).trans hz15).trans hz16).trans hz17).trans hz18).trans hz19).trans hz20).trans hz21).trans hz22))).mono ?_
      rintro e w23 ⟨rfl, hz23⟩
      try clear cf60
      try clear cf61
      try clear cf62
      have cf63 := blk1 (Ext.block ((((((((((((((((((((((((hz2.trans hz3).trans hz4).trans hx2).trans hz5).trans hx3).trans hz6).trans hz7).trans ((Ext.refl _).drew)).trans hz8).trans hz9).trans hz10).trans hz11).trans hz12).trans hz13).trans hz14).trans hz15).trans hz16).trans hz17).trans hz18).trans hz19).trans hz20).trans hz21).trans hz22).trans hz23) HB1.out)
      have cf64 := blk1 (Ext.block ((((((((((((((((((((hz5.trans hx3).trans hz6).trans hz7).trans ((Ext.refl _).drew)).trans hz8).trans hz9).trans hz10).trans hz11).trans hz12).trans hz13).trans hz14).trans hz15).trans hz16).trans hz17).trans hz18).trans hz19).trans hz20).trans hz21).trans hz22).trans hz23) HB2.out)
      have cf65 := blk1 (Ext.block ((((((((((((((((((hz6.trans hz7).trans ((Ext.refl _).drew)).trans hz8).trans hz9).trans hz10).trans hz11).trans hz12).trans hz13).trans hz14).trans hz15).trans hz16).trans hz17).trans hz18).trans hz19).trans hz20).trans hz21).trans hz22).trans hz23) HB3.out)
      go_wp2_with fail
      go_ret
      exact ⟨rfl, ((((((((((((((((((((((((((hz1.trans hx1).trans hz2).trans hz3).trans hz4).trans hx2).trans hz5).trans hx3).trans hz6).trans hz7).trans ((Ext.refl _).drew)).trans hz8).trans hz9).trans hz10).trans hz11).trans hz12).trans hz13).trans hz14).trans hz15).trans hz16).trans hz17).trans hz18).trans hz19).trans hz20).trans hz21).trans hz22).trans hz23)⟩
    case true =>
     as_aux_lemma =>
      have LAW := leased (rs := l) (id := id) (y := p) (rate := rate) (till := till) (c := c) (now := 45) (by rw [← HX.out]; exact HXB.out.symm)
      rw [← HX.out] at LAW
      have hq1 := LAW.1
      have hq2 : (pathRate x.1 id p 45 == rate) = true := by rw [beq_iff_eq]; exact LAW.2.1
      have hq3 : hasI (idsOf x.1) id = true := hasI_iff.2 LAW.2.2.1
      have hq4 : hasI (idsOf (release id x.1)) id = false := hasI_no LAW.2.2.2.1
      have hq5 := LAW.2.2.2.2
      have hrl := release_len id x.1
      clear LAW
      go_wp2_with fail
      refine planStep (.blk [0, 1, 2, 3] (.one 4 (.blk [5, 6, 7, 8, 9, 11] (.one 10 (.blk [12, 13, 14, 15, 17] (.one 16 (.one 18 (.blk [19, 20, 21, 22, 25] (.one 23 (.one 24 (.one 26 (.blk [27, 28, 29, 30, 31, 33, 34, 35] (.one 32 (.one 36 (.blk [37, 38, 39] .done))))))))))))))) [] (by kernel_rfl) (by as_aux_lemma => kernel_rfl) ?_
      try clear cf60
      try clear cf61
      try clear cf62
      have cf66 := blk1 (Ext.block ((((((((((((((((((((((((hz2.trans hz3).trans hz4).trans hx2).trans hz5).trans hx3).trans hz6).trans hz7).trans ((Ext.refl _).drew)).trans hz8).trans hz9).trans hz10).trans hz11).trans hz12).trans hz13).trans hz14).trans hz15).trans hz16).trans hz17).trans hz18).trans hz19).trans hz20).trans hz21).trans hz22).trans ((Ext.refl _).drew)) HB1.out)
      have cf67 := blk1 (Ext.block ((((((((((((((((((((hz5.trans hx3).trans hz6).trans hz7).trans ((Ext.refl _).drew)).trans hz8).trans hz9).trans hz10).trans hz11).trans hz12).trans hz13).trans hz14).trans hz15).trans hz16).trans hz17).trans hz18).trans hz19).trans hz20).trans hz21).trans hz22).trans ((Ext.refl _).drew)) HB2.out)
      have cf68 := blk1 (Ext.block ((((((((((((((((((hz6.trans hz7).trans ((Ext.refl _).drew)).trans hz8).trans hz9).trans hz10).trans hz11).trans hz12).trans hz13).trans hz14).trans hz15).trans hz16).trans hz17).trans hz18).trans hz19).trans hz20).trans hz21).trans hz22).trans ((Ext.refl _).drew)) HB3.out)
      refine blkStep (fun K HK => ?_)
      simp only [PK]
      go_wp2_with fail
      refine HK.out _ _ ?_
      clear HK K
      refine oneStep (fun K HK => ?_)
      simp only [PK]
      go_wp2_with fail
      refine (i_PathReserved x.1 _ id p _ 45 _ (rX.ext (((((((((((((((((((((((hz3.trans hz4).trans hx2).trans hz5).trans hx3).trans hz6).trans hz7).trans ((Ext.refl _).drew)).trans hz8).trans hz9).trans hz10).trans hz11).trans hz12).trans hz13).trans hz14).trans hz15).trans hz16).trans hz17).trans hz18).trans hz19).trans hz20).trans hz21).trans hz22).trans ((Ext.refl _).drew))) (rP.ext (((((((((((((((((((((((((hx1.trans hz2).trans hz3).trans hz4).trans hx2).trans hz5).trans hx3).trans hz6).trans hz7).trans ((Ext.refl _).drew)).trans hz8).trans hz9).trans hz10).trans hz11).trans hz12).trans hz13).trans hz14).trans hz15).trans hz16).trans hz17).trans hz18).trans hz19).trans hz20).trans hz21).trans hz22).trans ((Ext.refl _).drew))) (by omega)).mono ?_
      rintro e w24 ⟨rfl, hz24⟩
      try clear cf66
      try clear cf67
      try clear cf68
      have cf69 := blk1 (Ext.block (((((((((((((((((((((((((hz2.trans hz3).trans hz4).trans hx2).trans hz5).trans hx3).trans hz6).trans hz7).trans ((Ext.refl _).drew)).trans hz8).trans hz9).trans hz10).trans hz11).trans hz12).trans hz13).trans hz14).trans hz15).trans hz16).trans hz17).trans hz18).trans hz19).trans hz20).trans hz21).trans hz22).trans ((Ext.refl _).drew)).trans hz24) HB1.out)
      have cf70 := blk1 (Ext.block (((((((((((((((((((((hz5.trans hx3).trans hz6).trans hz7).trans ((Ext.refl _).drew)).trans hz8).trans hz9).trans hz10).trans hz11).trans hz12).trans hz13).trans hz14).trans hz15).trans hz16).trans hz17).trans hz18).trans hz19).trans hz20).trans hz21).trans hz22).trans ((Ext.refl _).drew)).trans hz24) HB2.out)
      have cf71 := blk1 (Ext.block (((((((((((((((((((hz6.trans hz7).trans ((Ext.refl _).drew)).trans hz8).trans hz9).trans hz10).trans hz11).trans hz12).trans hz13).trans hz14).trans hz15).trans hz16).trans hz17).trans hz18).trans hz19).trans hz20).trans hz21).trans hz22).trans ((Ext.refl _).drew)).trans hz24) HB3.out)
      go_wp2_with fail
      refine HK.out _ _ hz24 ?_
      clear HK K
      refine blkStep (fun K HK => ?_)
      simp only [PK]
      go_wp2_with fail
      refine HK.out _ _ ?_
      clear HK K
      refine oneStep (fun K HK => ?_)
      simp only [PK]
      go_wp2_with fail
      refine (i_PathRate x.1 _ id p _ 45 _ (rX.ext ((((((((((((((((((((((((hz3.trans hz4).trans hx2).trans hz5).trans hx3).trans hz6).trans hz7).trans ((Ext.refl _).drew)).trans hz8).trans hz9).trans hz10).trans hz11).trans hz12).trans hz13).trans hz14).trans hz15).trans hz16).trans hz17).trans hz18).trans hz19).trans hz20).trans hz21).trans hz22).trans ((Ext.refl _).drew)).trans hz24)) (rP.ext ((((((((((((((((((((((((((hx1.trans hz2).trans hz3).trans hz4).trans hx2).trans hz5).trans hx3).trans hz6).trans hz7).trans ((Ext.refl _).drew)).trans hz8).trans hz9).trans hz10).trans hz11).trans hz12).trans hz13).trans hz14).trans hz15).trans hz16).trans hz17).trans hz18).trans hz19).trans hz20).trans hz21).trans hz22).trans ((Ext.refl _).drew)).trans hz24)) (by omega)).mono ?_
      rintro e w25 ⟨rfl, hz25⟩
      try clear cf69
      try clear cf70
      try clear cf71
      have cf72 := blk1 (Ext.block ((((((((((((((((((((((((((hz2.trans hz3).trans hz4).trans hx2).trans hz5).trans hx3).trans hz6).trans hz7).trans ((Ext.refl _).drew)).trans hz8).trans hz9).trans hz10).trans hz11).trans hz12).trans hz13).trans hz14).trans hz15).trans hz16).trans hz17).trans hz18).trans hz19).trans hz20).trans hz21).trans hz22).trans ((Ext.refl _).drew)).trans hz24).trans hz25) HB1.out)
      have cf73 := blk1 (Ext.block ((((((((((((((((((((((hz5.trans hx3).trans hz6).trans hz7).trans ((Ext.refl _).drew)).trans hz8).trans hz9).trans hz10).trans hz11).trans hz12).trans hz13).trans hz14).trans hz15).trans hz16).trans hz17).trans hz18).trans hz19).trans hz20).trans hz21).trans hz22).trans ((Ext.refl _).drew)).trans hz24).trans hz25) HB2.out)
      have cf74 := blk1 (Ext.block ((((((((((((((((((((hz6.trans hz7).trans ((Ext.refl _).drew)).trans hz8).trans hz9).trans hz10).trans hz11).trans hz12).trans hz13).trans hz14).trans hz15).trans hz16).trans hz17).trans hz18).trans hz19).trans hz20).trans hz21).trans hz22).trans ((Ext.refl _).drew)).trans hz24).trans hz25) HB3.out)
      go_wp2_with fail
      refine HK.out _ _ hz25 ?_
      clear HK K
      refine blkStep (fun K HK => ?_)
      simp only [PK]
      go_wp2_with fail
      refine HK.out _ _ ?_
      clear HK K
      refine oneStep (fun K HK => ?_)
      simp only [PK]
      go_wp2_with fail
      refine (i_ReservationIDs x.1 _ _ (rX.ext (((((((((((((((((((((((((hz3.trans hz4).trans hx2).trans hz5).trans hx3).trans hz6).trans hz7).trans ((Ext.refl _).drew)).trans hz8).trans hz9).trans hz10).trans hz11).trans hz12).trans hz13).trans hz14).trans hz15).trans hz16).trans hz17).trans hz18).trans hz19).trans hz20).trans hz21).trans hz22).trans ((Ext.refl _).drew)).trans hz24).trans hz25)) (by omega)).mono ?_
      rintro e w26 ⟨vk, rfl, ho, hz26⟩
      have rk := OwnF.rd (hf := intFlen) ho
      clear ho
      try clear cf72
      try clear cf73
      try clear cf74
      have cf75 := blk1 (Ext.block (((((((((((((((((((((((((((hz2.trans hz3).trans hz4).trans hx2).trans hz5).trans hx3).trans hz6).trans hz7).trans ((Ext.refl _).drew)).trans hz8).trans hz9).trans hz10).trans hz11).trans hz12).trans hz13).trans hz14).trans hz15).trans hz16).trans hz17).trans hz18).trans hz19).trans hz20).trans hz21).trans hz22).trans ((Ext.refl _).drew)).trans hz24).trans hz25).trans hz26) HB1.out)
      have cf76 := blk1 (Ext.block (((((((((((((((((((((((hz5.trans hx3).trans hz6).trans hz7).trans ((Ext.refl _).drew)).trans hz8).trans hz9).trans hz10).trans hz11).trans hz12).trans hz13).trans hz14).trans hz15).trans hz16).trans hz17).trans hz18).trans hz19).trans hz20).trans hz21).trans hz22).trans ((Ext.refl _).drew)).trans hz24).trans hz25).trans hz26) HB2.out)
      have cf77 := blk1 (Ext.block (((((((((((((((((((((hz6.trans hz7).trans ((Ext.refl _).drew)).trans hz8).trans hz9).trans hz10).trans hz11).trans hz12).trans hz13).trans hz14).trans hz15).trans hz16).trans hz17).trans hz18).trans hz19).trans hz20).trans hz21).trans hz22).trans ((Ext.refl _).drew)).trans hz24).trans hz25).trans hz26) HB3.out)
      go_wp2_with fail
      refine HK.out _ _ hz26 ?_
      clear HK K
      refine oneStep (fun K HK => ?_)
      simp only [PK]
      go_wp2_with fail
      refine (l_in (idsOf x.1) _ id _ (rk.ext (Ext.refl _))).mono ?_
      rintro e w27 ⟨rfl, hz27⟩
      try clear cf75
      try clear cf76
      try clear cf77
      have cf78 := blk1 (Ext.block ((((((((((((((((((((((((((((hz2.trans hz3).trans hz4).trans hx2).trans hz5).trans hx3).trans hz6).trans hz7).trans ((Ext.refl _).drew)).trans hz8).trans hz9).trans hz10).trans hz11).trans hz12).trans hz13).trans hz14).trans hz15).trans hz16).trans hz17).trans hz18).trans hz19).trans hz20).trans hz21).trans hz22).trans ((Ext.refl _).drew)).trans hz24).trans hz25).trans hz26).trans hz27) HB1.out)
      have cf79 := blk1 (Ext.block ((((((((((((((((((((((((hz5.trans hx3).trans hz6).trans hz7).trans ((Ext.refl _).drew)).trans hz8).trans hz9).trans hz10).trans hz11).trans hz12).trans hz13).trans hz14).trans hz15).trans hz16).trans hz17).trans hz18).trans hz19).trans hz20).trans hz21).trans hz22).trans ((Ext.refl _).drew)).trans hz24).trans hz25).trans hz26).trans hz27) HB2.out)
      have cf80 := blk1 (Ext.block ((((((((((((((((((((((hz6.trans hz7).trans ((Ext.refl _).drew)).trans hz8).trans hz9).trans hz10).trans hz11).trans hz12).trans hz13).trans hz14).trans hz15).trans hz16).trans hz17).trans hz18).trans hz19).trans hz20).trans hz21).trans hz22).trans ((Ext.refl _).drew)).trans hz24).trans hz25).trans hz26).trans hz27) HB3.out)
      go_wp2_with fail
      refine HK.out _ _ hz27 ?_
      clear HK K
      refine blkStep (fun K HK => ?_)
      simp only [PK]
      go_wp2_with fail
      refine HK.out _ _ ?_
      clear HK K
      refine oneStep (fun K HK => ?_)
      simp only [PK]
      go_wp2_with fail
      refine (i_Release x.1 _ id _ (rX.ext (((((((((((((((((((((((((((hz3.trans hz4).trans hx2).trans hz5).trans hx3).trans hz6).trans hz7).trans ((Ext.refl _).drew)).trans hz8).trans hz9).trans hz10).trans hz11).trans hz12).trans hz13).trans hz14).trans hz15).trans hz16).trans hz17).trans hz18).trans hz19).trans hz20).trans hz21).trans hz22).trans ((Ext.refl _).drew)).trans hz24).trans hz25).trans hz26).trans hz27)) (by omega)).mono ?_
      rintro e w28 ⟨vm, rfl, ho, hz28⟩
      have rm := OwnF.rd (hf := Resv.flen) ho
      clear ho
      try clear cf78
      try clear cf79
      try clear cf80
      have cf81 := blk1 (Ext.block (((((((((((((((((((((((((((((hz2.trans hz3).trans hz4).trans hx2).trans hz5).trans hx3).trans hz6).trans hz7).trans ((Ext.refl _).drew)).trans hz8).trans hz9).trans hz10).trans hz11).trans hz12).trans hz13).trans hz14).trans hz15).trans hz16).trans hz17).trans hz18).trans hz19).trans hz20).trans hz21).trans hz22).trans ((Ext.refl _).drew)).trans hz24).trans hz25).trans hz26).trans hz27).trans hz28) HB1.out)
      have cf82 := blk1 (Ext.block (((((((((((((((((((((((((hz5.trans hx3).trans hz6).trans hz7).trans ((Ext.refl _).drew)).trans hz8).trans hz9).trans hz10).trans hz11).trans hz12).trans hz13).trans hz14).trans hz15).trans hz16).trans hz17).trans hz18).trans hz19).trans hz20).trans hz21).trans hz22).trans ((Ext.refl _).drew)).trans hz24).trans hz25).trans hz26).trans hz27).trans hz28) HB2.out)
      have cf83 := blk1 (Ext.block (((((((((((((((((((((((hz6.trans hz7).trans ((Ext.refl _).drew)).trans hz8).trans hz9).trans hz10).trans hz11).trans hz12).trans hz13).trans hz14).trans hz15).trans hz16).trans hz17).trans hz18).trans hz19).trans hz20).trans hz21).trans hz22).trans ((Ext.refl _).drew)).trans hz24).trans hz25).trans hz26).trans hz27).trans hz28) HB3.out)
      go_wp2_with fail
      refine HK.out _ _ hz28 ?_
      clear HK K
      refine oneStep (fun K HK => ?_)
      simp only [PK]
      go_wp2_with fail
      refine (i_ReservationIDs (release id x.1) _ _ (rm.ext (Ext.refl _)) (by omega)).mono ?_
      rintro e w29 ⟨vn, rfl, ho, hz29⟩
      have rn := OwnF.rd (hf := intFlen) ho
      clear ho
      try clear cf81
      try clear cf82
      try clear cf83
      have cf84 := blk1 (Ext.block ((((((((((((((((((((((((((((((hz2.trans hz3).trans hz4).trans hx2).trans hz5).trans hx3).trans hz6).trans hz7).trans ((Ext.refl _).drew)).trans hz8).trans hz9).trans hz10).trans hz11).trans hz12).trans hz13).trans hz14).trans hz15).trans hz16).trans hz17).trans hz18).trans hz19).trans hz20).trans hz21).trans hz22).trans ((Ext.refl _).drew)).trans hz24).trans hz25).trans hz26).trans hz27).trans hz28).trans hz29) HB1.out)
      have cf85 := blk1 (Ext.block ((((((((((((((((((((((((((hz5.trans hx3).trans hz6).trans hz7).trans ((Ext.refl _).drew)).trans hz8).trans hz9).trans hz10).trans hz11).trans hz12).trans hz13).trans hz14).trans hz15).trans hz16).trans hz17).trans hz18).trans hz19).trans hz20).trans hz21).trans hz22).trans ((Ext.refl _).drew)).trans hz24).trans hz25).trans hz26).trans hz27).trans hz28).trans hz29) HB2.out)
      have cf86 := blk1 (Ext.block ((((((((((((((((((((((((hz6.trans hz7).trans ((Ext.refl _).drew)).trans hz8).trans hz9).trans hz10).trans hz11).trans hz12).trans hz13).trans hz14).trans hz15).trans hz16).trans hz17).trans hz18).trans hz19).trans hz20).trans hz21).trans hz22).trans ((Ext.refl _).drew)).trans hz24).trans hz25).trans hz26).trans hz27).trans hz28).trans hz29) HB3.out)
      go_wp2_with fail
      refine HK.out _ _ hz29 ?_
      clear HK K
      refine oneStep (fun K HK => ?_)
      simp only [PK]
      go_wp2_with fail
      refine (l_in (idsOf (release id x.1)) _ id _ (rn.ext (Ext.refl _))).mono ?_
      rintro e w30 ⟨rfl, hz30⟩
      try clear cf84
      try clear cf85
      try clear cf86
      have cf87 := blk1 (Ext.block (((((((((((((((((((((((((((((((hz2.trans hz3).trans hz4).trans hx2).trans hz5).trans hx3).trans hz6).trans hz7).trans ((Ext.refl _).drew)).trans hz8).trans hz9).trans hz10).trans hz11).trans hz12).trans hz13).trans hz14).trans hz15).trans hz16).trans hz17).trans hz18).trans hz19).trans hz20).trans hz21).trans hz22).trans ((Ext.refl _).drew)).trans hz24).trans hz25).trans hz26).trans hz27).trans hz28).trans hz29).trans hz30) HB1.out)
      have cf88 := blk1 (Ext.block (((((((((((((((((((((((((((hz5.trans hx3).trans hz6).trans hz7).trans ((Ext.refl _).drew)).trans hz8).trans hz9).trans hz10).trans hz11).trans hz12).trans hz13).trans hz14).trans hz15).trans hz16).trans hz17).trans hz18).trans hz19).trans hz20).trans hz21).trans hz22).trans ((Ext.refl _).drew)).trans hz24).trans hz25).trans hz26).trans hz27).trans hz28).trans hz29).trans hz30) HB2.out)
      have cf89 := blk1 (Ext.block (((((((((((((((((((((((((hz6.trans hz7).trans ((Ext.refl _).drew)).trans hz8).trans hz9).trans hz10).trans hz11).trans hz12).trans hz13).trans hz14).trans hz15).trans hz16).trans hz17).trans hz18).trans hz19).trans hz20).trans hz21).trans hz22).trans ((Ext.refl _).drew)).trans hz24).trans hz25).trans hz26).trans hz27).trans hz28).trans hz29).trans hz30) HB3.out)
      go_wp2_with fail
      refine HK.out _ _ hz30 ?_
      clear HK K
      refine blkStep (fun K HK => ?_)
      simp only [PK]
      go_wp2_with fail
      refine HK.out _ _ ?_
      clear HK K
      refine oneStep (fun K HK => ?_)
      simp only [PK]
      go_wp2_with fail
      refine (i_Release x.1 _ id _ (rX.ext ((((((((((((((((((((((((((((((hz3.trans hz4).trans hx2).trans hz5).trans hx3).trans hz6).trans hz7).trans ((Ext.refl _).drew)).trans hz8).trans hz9).trans hz10).trans hz11).trans hz12).trans hz13).trans hz14).trans hz15).trans hz16).trans hz17).trans hz18).trans hz19).trans hz20).trans hz21).trans hz22).trans ((Ext.refl _).drew)).trans hz24).trans hz25).trans hz26).trans hz27).trans hz28).trans hz29).trans hz30)) (by omega)).mono ?_
      rintro e w31 ⟨vu, rfl, ho, hz31⟩
      have ru := OwnF.rd (hf := Resv.flen) ho
      clear ho
      try clear cf87
      try clear cf88
      try clear cf89
      have cf90 := blk1 (Ext.block ((((((((((((((((((((((((((((((((hz2.trans hz3).trans hz4).trans hx2).trans hz5).trans hx3).trans hz6).trans hz7).trans ((Ext.refl _).drew)).trans hz8).trans hz9).trans hz10).trans hz11).trans hz12).trans hz13).trans hz14).trans hz15).trans hz16).trans hz17).trans hz18).trans hz19).trans hz20).trans hz21).trans hz22).trans ((Ext.refl _).drew)).trans hz24).trans hz25).trans hz26).trans hz27).trans hz28).trans hz29).trans hz30).trans hz31) HB1.out)
      have cf91 := blk1 (Ext.block ((((((((((((((((((((((((((((hz5.trans hx3).trans hz6).trans hz7).trans ((Ext.refl _).drew)).trans hz8).trans hz9).trans hz10).trans hz11).trans hz12).trans hz13).trans hz14).trans hz15).trans hz16).trans hz17).trans hz18).trans hz19).trans hz20).trans hz21).trans hz22).trans ((Ext.refl _).drew)).trans hz24).trans hz25).trans hz26).trans hz27).trans hz28).trans hz29).trans hz30).trans hz31) HB2.out)
      have cf92 := blk1 (Ext.block ((((((((((((((((((((((((((hz6.trans hz7).trans ((Ext.refl _).drew)).trans hz8).trans hz9).trans hz10).trans hz11).trans hz12).trans hz13).trans hz14).trans hz15).trans hz16).trans hz17).trans hz18).trans hz19).trans hz20).trans hz21).trans hz22).trans ((Ext.refl _).drew)).trans hz24).trans hz25).trans hz26).trans hz27).trans hz28).trans hz29).trans hz30).trans hz31) HB3.out)
      go_wp2_with fail
      refine HK.out _ _ hz31 ?_
      clear HK K
      refine oneStep (fun K HK => ?_)
      simp only [PK]
      go_wp2_with fail
      refine (i_PathReserved (release id x.1) _ id p _ 45 _ (ru.ext (Ext.refl _)) (rP.ext (((((((((((((((((((((((((((((((((hx1.trans hz2).trans hz3).trans hz4).trans hx2).trans hz5).trans hx3).trans hz6).trans hz7).trans ((Ext.refl _).drew)).trans hz8).trans hz9).trans hz10).trans hz11).trans hz12).trans hz13).trans hz14).trans hz15).trans hz16).trans hz17).trans hz18).trans hz19).trans hz20).trans hz21).trans hz22).trans ((Ext.refl _).drew)).trans hz24).trans hz25).trans hz26).trans hz27).trans hz28).trans hz29).trans hz30).trans hz31)) (by omega)).mono ?_
      rintro e w32 ⟨rfl, hz32⟩
      try clear cf90
      try clear cf91
      try clear cf92
      have cf93 := blk1 (Ext.block (((((((((((((((((((((((((((((((((hz2.trans hz3).trans hz4).trans hx2).trans hz5).trans hx3).trans hz6).trans hz7).trans ((Ext.refl _).drew)).trans hz8).trans hz9).trans hz10).trans hz11).trans hz12).trans hz13).trans hz14).trans hz15).trans hz16).trans hz17).trans hz18).trans hz19).trans hz20).trans hz21).trans hz22).trans ((Ext.refl _).drew)).trans hz24).trans hz25).trans hz26).trans hz27).trans hz28).trans hz29).trans hz30).trans hz31).trans hz32) HB1.out)
      have cf94 := blk1 (Ext.block (((((((((((((((((((((((((((((hz5.trans hx3).trans hz6).trans hz7).trans ((Ext.refl _).drew)).trans hz8).trans hz9).trans hz10).trans hz11).trans hz12).trans hz13).trans hz14).trans hz15).trans hz16).trans hz17).trans hz18).trans hz19).trans hz20).trans hz21).trans hz22).trans ((Ext.refl _).drew)).trans hz24).trans hz25).trans hz26).trans hz27).trans hz28).trans hz29).trans hz30).trans hz31).trans hz32) HB2.out)
      have cf95 := blk1 (Ext.block (((((((((((((((((((((((((((hz6.trans hz7).trans ((Ext.refl _).drew)).trans hz8).trans hz9).trans hz10).trans hz11).trans hz12).trans hz13).trans hz14).trans hz15).trans hz16).trans hz17).trans hz18).trans hz19).trans hz20).trans hz21).trans hz22).trans ((Ext.refl _).drew)).trans hz24).trans hz25).trans hz26).trans hz27).trans hz28).trans hz29).trans hz30).trans hz31).trans hz32) HB3.out)
      go_wp2_with fail
      refine HK.out _ _ hz32 ?_
      clear HK K
      refine blkStep (fun K HK => ?_)
      simp only [PK]
      go_wp2_with fail
      refine HK.out _ _ ?_
      clear HK K
      refine doneStep (by kernel_rfl) ?_
      go_wp2_with fail
      go_ret
      exact ⟨rfl, (((((((((((((((((((((((((((((((((((hz1.trans hx1).trans hz2).trans hz3).trans hz4).trans hx2).trans hz5).trans hx3).trans hz6).trans hz7).trans ((Ext.refl _).drew)).trans hz8).trans hz9).trans hz10).trans hz11).trans hz12).trans hz13).trans hz14).trans hz15).trans hz16).trans hz17).trans hz18).trans hz19).trans hz20).trans hz21).trans hz22).trans ((Ext.refl _).drew)).trans hz24).trans hz25).trans hz26).trans hz27).trans hz28).trans hz29).trans hz30).trans hz31).trans hz32)⟩

end Go.Proofs.Ytikbeiafobnblaa
