/- The walk of the law over joined segments: two joined segments verify exactly if their chaining values agree. No condition. The law FnSplices: for every input the call returns true, and each argument reads afterwards as it read before. No condition. -/
import Derived.Test.YtkolfiedakojoaaW09j
namespace Go.Proofs.Ytkolfiedakojoaa
open Go.ChangeShapes Go.WideShapes Go.ChangeAt Go.RowKit Go.Deep

theorem l_atE (code : List Int) (v : Value) (i : Int) (w : World) (hr : RdS Rep.byte w v code) (hu : ∀ x ∈ code, U8 x) (h0 : 0 ≤ i) (h1 : i ≤ 1048576) (hl : code.length ≤ 1048576) :
    Calls Try.prog 40 #[v, .int .i64 i] w fun e w' => ∃ r : Int, e = .returned (.int .i64 r) ∧ 0 ≤ r ∧ r ≤ 255 ∧ Ext w w' :=
  (l_at code v i w hr hu h0 h1 hl).mono fun _ _ ⟨r, a1, a2, a3, a4⟩ => ⟨r, a1, a2, a3, a4 ▸ Ext.refl _⟩
theorem l_sameSegT (a : Seg) (va vb : Value) (w : World) (ra : RdS Hop.rep w va a.hops) (rb : RdS Hop.rep w vb a.hops) :
    Calls Try.prog 37 #[.agg #[.int .i64 a.ts, .int .i64 a.beta, va], .agg #[.int .i64 a.ts, .int .i64 a.beta, vb]] w fun e w' => e = .returned (.bool true) ∧ Ext w w' :=
  (l_sameSeg a a va vb w ra rb).mono fun _ w' ⟨h1, h2⟩ => ⟨by rw [h1]; simp, h2⟩
theorem emod_nat {r : Int} {n : Nat} (hn : 0 < n) : ∃ k : Nat, r % (n : Int) = k ∧ k < n := by
  have h1 := Int.emod_nonneg r (show (n : Int) ≠ 0 by omega)
  have h2 := Int.emod_lt_of_pos r (show (0 : Int) < n by omega)
  exact ⟨(r % n).toNat, by omega, by omega⟩

set_option maxRecDepth 100000 in
set_option maxHeartbeats 40000000 in
theorem l_FnSplices (code : List Int) (cv : Value) (w : World) (hr : RdS Rep.byte w cv code) (hu : ∀ x ∈ code, U8 x) :
    Calls Try.prog 5 #[cv] w fun e w' => e = .returned (.bool true) ∧ Ext w w' := by
  obtain ⟨co, cc, rfl, _⟩ := hr.shape
  by_cases hbig : 1048576 < code.length
  · have hb1 : decide (1048576 < code.length) = true := by simpa using hbig
    have HB1 := Lib.hid hb1; clear hb1
    go_enter Try.func5, Try.ntmps5
    go_wp2_with fail
    refine (l_big code _ _ hr).mono ?_
    rintro e _ ⟨rfl, rfl⟩
    rw [HB1.out]
    go_wp2_with fail
    go_ret
    exact ⟨rfl, Ext.refl _⟩
  have hb1 : decide (1048576 < code.length) = false := by simpa using hbig
  have hl : code.length ≤ 1048576 := by omega
  have HB1 := Lib.hid hb1; clear hb1 hbig
  go_enter Try.func5, Try.ntmps5
  go_wp2_with fail
  refine (l_big code _ _ hr).mono ?_
  rintro e _ ⟨rfl, rfl⟩
  rw [HB1.out]
  go_wp2_with fail
  refine (s_DrawTwoSegs code _ _ (hr.ext (Ext.refl _)) hu hl).mono ?_
  rintro e w1 ⟨v1, v2, va, vb, t, ka, kb, a, b, rfl, TK, SD, SE, RA, RL, RH, RB, hz1⟩
  obtain ⟨o1, c1, rfl, _⟩ := (OwnF.rd (hf := ASd.flen) RA).shape
  obtain ⟨o2, c2, rfl, _⟩ := (OwnF.rd (hf := Lnk.flen) RL).shape
  obtain ⟨o_a, c_a, rfl, _⟩ := (OwnF.rd (hf := Hop.flen) RH).shape
  obtain ⟨o_b, c_b, rfl, _⟩ := (OwnF.rd (hf := Hop.flen) RB).shape
  have rA := OwnF.rd (hf := ASd.flen) RA
  have rH := OwnF.rd (hf := Hop.flen) RH
  have rB := OwnF.rd (hf := Hop.flen) RB
  clear RA RL RH RB
  have hla := SD.len
  have hlb := SE.len
  have hx1 := ext3 w1 (.cells #[.slice o1 t.ases.length c1, .slice o2 t.links.length c2] 59) (.cells #[.int .i64 a.ts, .int .i64 a.beta, .slice o_a a.hops.length c_a] 62) (.cells #[.int .i64 b.ts, .int .i64 b.beta, .slice o_b b.hops.length c_b] 62)
  have HB1 := Lib.hid (al3 w1 (.cells #[.slice o1 t.ases.length c1, .slice o2 t.links.length c2] 59) (.cells #[.int .i64 a.ts, .int .i64 a.beta, .slice o_a a.hops.length c_a] 62) (.cells #[.int .i64 b.ts, .int .i64 b.beta, .slice o_b b.hops.length c_b] 62))
  have cf1 := blk2 HB1.out.1
  have cf2 := blk3 HB1.out.2.1
  have cf3 := blk3 HB1.out.2.2
  go_wp2_with fail
  refine (s_DrawSplice code _ _ (hr.ext (hz1.trans hx1)) hu hl).mono ?_
  rintro e w2 ⟨vc, vd, c, d, i, j, rfl, hc5, hd5, RC, RD, hz2⟩
  obtain ⟨o_c, c_c, rfl, _⟩ := (OwnF.rd (hf := Hop.flen) RC).shape
  obtain ⟨o_d, c_d, rfl, _⟩ := (OwnF.rd (hf := Hop.flen) RD).shape
  have rC := OwnF.rd (hf := Hop.flen) RC
  have rD := OwnF.rd (hf := Hop.flen) RD
  clear RC RD
  have hx2 := ext2 w2 (.cells #[.int .i64 c.ts, .int .i64 c.beta, .slice o_c c.hops.length c_c] 62) (.cells #[.int .i64 d.ts, .int .i64 d.beta, .slice o_d d.hops.length c_d] 62)
  have HB2 := Lib.hid (al2 w2 (.cells #[.int .i64 c.ts, .int .i64 c.beta, .slice o_c c.hops.length c_c] 62) (.cells #[.int .i64 d.ts, .int .i64 d.beta, .slice o_d d.hops.length c_d] 62))
  have ha0 : a.hops.length = 0 ∨ 0 < a.hops.length := by omega
  rcases ha0 with ha0 | ha0
  · have ha1 : ((a.hops.length : Int) == 0) = true := by simp; exact List.eq_nil_of_length_eq_zero ha0
    clear ha0
    try clear cf1
    try clear cf2
    try clear cf3
    have cf4 := blk2 (Ext.block (hz2.trans hx2) HB1.out.1)
    have cf5 := blk3 (Ext.block (hz2.trans hx2) HB1.out.2.1)
    have cf6 := blk3 (Ext.block (hz2.trans hx2) HB1.out.2.2)
    have cf7 := blk3 HB2.out.1
    have cf8 := blk3 HB2.out.2
    go_wp2_with fail
    refine planStep (.blk [0, 1, 2, 3, 5, 6, 7, 8] (.one 4 (.one 9 (.one 10 (.blk [11, 12, 13, 14, 15, 16, 17, 18, 19, 20, 21, 22, 23] .done))))) [] (by kernel_rfl) (by kernel_rfl) ?_
    try clear cf4
    try clear cf5
    try clear cf6
    try clear cf7
    try clear cf8
    have cf9 := blk2 (Ext.block ((hz2.trans hx2).trans ((Ext.refl _).drew)) HB1.out.1)
    have cf10 := blk3 (Ext.block ((hz2.trans hx2).trans ((Ext.refl _).drew)) HB1.out.2.1)
    have cf11 := blk3 (Ext.block ((hz2.trans hx2).trans ((Ext.refl _).drew)) HB1.out.2.2)
    have cf12 := blk3 (Ext.block ((Ext.refl _).drew) HB2.out.1)
    have cf13 := blk3 (Ext.block ((Ext.refl _).drew) HB2.out.2)
    refine blkStep (fun K HK => ?_)
    simp only [pick, List.filterMap_cons, List.filterMap_nil, List.getElem?_toArray, List.getElem?_cons_zero, List.getElem?_cons_succ]
    go_wp2_with fail
    refine HK.out _ _ ?_
    clear HK K
    refine oneStep (fun K HK => ?_)
    simp only [pick, List.filterMap_cons, List.filterMap_nil, List.getElem?_toArray, List.getElem?_cons_zero, List.getElem?_cons_succ]
    go_wp2_with fail
    refine (i_Splice c d i j _ _ _ (rC.ext (hx2.trans ((Ext.refl _).drew))) (rD.ext (hx2.trans ((Ext.refl _).drew))) (by omega) (by omega)).mono ?_
    rintro e w3 ⟨vx, rfl, OX, hz3⟩
    try clear cf9
    try clear cf10
    try clear cf11
    try clear cf12
    try clear cf13
    have cf14 := blk2 (Ext.block (((hz2.trans hx2).trans ((Ext.refl _).drew)).trans hz3) HB1.out.1)
    have cf15 := blk3 (Ext.block (((hz2.trans hx2).trans ((Ext.refl _).drew)).trans hz3) HB1.out.2.1)
    have cf16 := blk3 (Ext.block (((hz2.trans hx2).trans ((Ext.refl _).drew)).trans hz3) HB1.out.2.2)
    have cf17 := blk3 (Ext.block (((Ext.refl _).drew).trans hz3) HB2.out.1)
    have cf18 := blk3 (Ext.block (((Ext.refl _).drew).trans hz3) HB2.out.2)
    go_wp2_with fail
    refine HK.out _ _ hz3 ?_
    clear HK K
    refine oneStep (fun K HK => ?_)
    simp only [pick, List.filterMap_cons, List.filterMap_nil, List.getElem?_toArray, List.getElem?_cons_zero, List.getElem?_cons_succ]
    go_wp2_with fail
    refine (s_Splice c d i j _ _ _ (rC.ext ((hx2.trans ((Ext.refl _).drew)).trans hz3)) (rD.ext ((hx2.trans ((Ext.refl _).drew)).trans hz3)) (by omega) (by omega)).mono ?_
    rintro e w4 ⟨vy, rfl, OY, hz4⟩
    try clear cf14
    try clear cf15
    try clear cf16
    try clear cf17
    try clear cf18
    have cf19 := blk2 (Ext.block ((((hz2.trans hx2).trans ((Ext.refl _).drew)).trans hz3).trans hz4) HB1.out.1)
    have cf20 := blk3 (Ext.block ((((hz2.trans hx2).trans ((Ext.refl _).drew)).trans hz3).trans hz4) HB1.out.2.1)
    have cf21 := blk3 (Ext.block ((((hz2.trans hx2).trans ((Ext.refl _).drew)).trans hz3).trans hz4) HB1.out.2.2)
    have cf22 := blk3 (Ext.block ((((Ext.refl _).drew).trans hz3).trans hz4) HB2.out.1)
    have cf23 := blk3 (Ext.block ((((Ext.refl _).drew).trans hz3).trans hz4) HB2.out.2)
    go_wp2_with fail
    refine HK.out _ _ hz4 ?_
    clear HK K
    refine oneStep (fun K HK => ?_)
    simp only [pick, List.filterMap_cons, List.filterMap_nil, List.getElem?_toArray, List.getElem?_cons_zero, List.getElem?_cons_succ]
    go_wp2_with fail
    refine (l_sameSegT (splice c i d j) _ _ _ ((OwnF.rd (hf := Hop.flen) OX).ext hz4) (OwnF.rd (hf := Hop.flen) OY)).mono ?_
    rintro e w5 ⟨rfl, hz5⟩
    try clear cf19
    try clear cf20
    try clear cf21
    try clear cf22
    try clear cf23
    have cf24 := blk2 (Ext.block (((((hz2.trans hx2).trans ((Ext.refl _).drew)).trans hz3).trans hz4).trans hz5) HB1.out.1)
    have cf25 := blk3 (Ext.block (((((hz2.trans hx2).trans ((Ext.refl _).drew)).trans hz3).trans hz4).trans hz5) HB1.out.2.1)
    have cf26 := blk3 (Ext.block (((((hz2.trans hx2).trans ((Ext.refl _).drew)).trans hz3).trans hz4).trans hz5) HB1.out.2.2)
    have cf27 := blk3 (Ext.block (((((Ext.refl _).drew).trans hz3).trans hz4).trans hz5) HB2.out.1)
    have cf28 := blk3 (Ext.block (((((Ext.refl _).drew).trans hz3).trans hz4).trans hz5) HB2.out.2)
    go_wp2_with fail
    refine HK.out _ _ hz5 ?_
    clear HK K
    refine blkStep (fun K HK => ?_)
    simp only [pick, List.filterMap_cons, List.filterMap_nil, List.getElem?_toArray, List.getElem?_cons_zero, List.getElem?_cons_succ]
    go_wp2_with fail
    refine HK.out _ _ ?_
    clear HK K
    refine doneStep (by kernel_rfl) ?_
    clear OX OY
    go_wp2_with fail
    refine planStep (.blk [0, 1, 2, 3, 5, 6, 7, 8] (.one 4 (.one 9 (.one 10 (.blk [11] .done))))) [] (by kernel_rfl) (by kernel_rfl) ?_
    try clear cf24
    try clear cf25
    try clear cf26
    try clear cf27
    try clear cf28
    have cf29 := blk2 (Ext.block ((((((hz2.trans hx2).trans ((Ext.refl _).drew)).trans hz3).trans hz4).trans hz5).trans ((Ext.refl _).drew)) HB1.out.1)
    have cf30 := blk3 (Ext.block ((((((hz2.trans hx2).trans ((Ext.refl _).drew)).trans hz3).trans hz4).trans hz5).trans ((Ext.refl _).drew)) HB1.out.2.1)
    have cf31 := blk3 (Ext.block ((((((hz2.trans hx2).trans ((Ext.refl _).drew)).trans hz3).trans hz4).trans hz5).trans ((Ext.refl _).drew)) HB1.out.2.2)
    have cf32 := blk3 (Ext.block ((((((Ext.refl _).drew).trans hz3).trans hz4).trans hz5).trans ((Ext.refl _).drew)) HB2.out.1)
    have cf33 := blk3 (Ext.block ((((((Ext.refl _).drew).trans hz3).trans hz4).trans hz5).trans ((Ext.refl _).drew)) HB2.out.2)
    refine blkStep (fun K HK => ?_)
    simp only [pick, List.filterMap_cons, List.filterMap_nil, List.getElem?_toArray, List.getElem?_cons_zero, List.getElem?_cons_succ]
    go_wp2_with fail
    refine HK.out _ _ ?_
    clear HK K
    refine oneStep (fun K HK => ?_)
    simp only [pick, List.filterMap_cons, List.filterMap_nil, List.getElem?_toArray, List.getElem?_cons_zero, List.getElem?_cons_succ]
    go_wp2_with fail
    refine (i_Splice c d i j _ _ _ (rC.ext (((((hx2.trans ((Ext.refl _).drew)).trans hz3).trans hz4).trans hz5).trans ((Ext.refl _).drew))) (rD.ext (((((hx2.trans ((Ext.refl _).drew)).trans hz3).trans hz4).trans hz5).trans ((Ext.refl _).drew))) (by omega) (by omega)).mono ?_
    rintro e w6 ⟨vx, rfl, OX, hz6⟩
    try clear cf29
    try clear cf30
    try clear cf31
    try clear cf32
    try clear cf33
    have cf34 := blk2 (Ext.block (((((((hz2.trans hx2).trans ((Ext.refl _).drew)).trans hz3).trans hz4).trans hz5).trans ((Ext.refl _).drew)).trans hz6) HB1.out.1)
    have cf35 := blk3 (Ext.block (((((((hz2.trans hx2).trans ((Ext.refl _).drew)).trans hz3).trans hz4).trans hz5).trans ((Ext.refl _).drew)).trans hz6) HB1.out.2.1)
    have cf36 := blk3 (Ext.block (((((((hz2.trans hx2).trans ((Ext.refl _).drew)).trans hz3).trans hz4).trans hz5).trans ((Ext.refl _).drew)).trans hz6) HB1.out.2.2)
    have cf37 := blk3 (Ext.block (((((((Ext.refl _).drew).trans hz3).trans hz4).trans hz5).trans ((Ext.refl _).drew)).trans hz6) HB2.out.1)
    have cf38 := blk3 (Ext.block (((((((Ext.refl _).drew).trans hz3).trans hz4).trans hz5).trans ((Ext.refl _).drew)).trans hz6) HB2.out.2)
    go_wp2_with fail
    refine HK.out _ _ hz6 ?_
    clear HK K
    refine oneStep (fun K HK => ?_)
    simp only [pick, List.filterMap_cons, List.filterMap_nil, List.getElem?_toArray, List.getElem?_cons_zero, List.getElem?_cons_succ]
    go_wp2_with fail
    refine (s_Splice c d i j _ _ _ (rC.ext ((((((hx2.trans ((Ext.refl _).drew)).trans hz3).trans hz4).trans hz5).trans ((Ext.refl _).drew)).trans hz6)) (rD.ext ((((((hx2.trans ((Ext.refl _).drew)).trans hz3).trans hz4).trans hz5).trans ((Ext.refl _).drew)).trans hz6)) (by omega) (by omega)).mono ?_
    rintro e w7 ⟨vy, rfl, OY, hz7⟩
    try clear cf34
    try clear cf35
    try clear cf36
    try clear cf37
    try clear cf38
    have cf39 := blk2 (Ext.block ((((((((hz2.trans hx2).trans ((Ext.refl _).drew)).trans hz3).trans hz4).trans hz5).trans ((Ext.refl _).drew)).trans hz6).trans hz7) HB1.out.1)
    have cf40 := blk3 (Ext.block ((((((((hz2.trans hx2).trans ((Ext.refl _).drew)).trans hz3).trans hz4).trans hz5).trans ((Ext.refl _).drew)).trans hz6).trans hz7) HB1.out.2.1)
    have cf41 := blk3 (Ext.block ((((((((hz2.trans hx2).trans ((Ext.refl _).drew)).trans hz3).trans hz4).trans hz5).trans ((Ext.refl _).drew)).trans hz6).trans hz7) HB1.out.2.2)
    have cf42 := blk3 (Ext.block ((((((((Ext.refl _).drew).trans hz3).trans hz4).trans hz5).trans ((Ext.refl _).drew)).trans hz6).trans hz7) HB2.out.1)
    have cf43 := blk3 (Ext.block ((((((((Ext.refl _).drew).trans hz3).trans hz4).trans hz5).trans ((Ext.refl _).drew)).trans hz6).trans hz7) HB2.out.2)
    go_wp2_with fail
    refine HK.out _ _ hz7 ?_
    clear HK K
    refine oneStep (fun K HK => ?_)
    simp only [pick, List.filterMap_cons, List.filterMap_nil, List.getElem?_toArray, List.getElem?_cons_zero, List.getElem?_cons_succ]
    go_wp2_with fail
    refine (l_sameSegT (splice c i d j) _ _ _ ((OwnF.rd (hf := Hop.flen) OX).ext hz7) (OwnF.rd (hf := Hop.flen) OY)).mono ?_
    rintro e w8 ⟨rfl, hz8⟩
    try clear cf39
    try clear cf40
    try clear cf41
    try clear cf42
    try clear cf43
    have cf44 := blk2 (Ext.block (((((((((hz2.trans hx2).trans ((Ext.refl _).drew)).trans hz3).trans hz4).trans hz5).trans ((Ext.refl _).drew)).trans hz6).trans hz7).trans hz8) HB1.out.1)
    have cf45 := blk3 (Ext.block (((((((((hz2.trans hx2).trans ((Ext.refl _).drew)).trans hz3).trans hz4).trans hz5).trans ((Ext.refl _).drew)).trans hz6).trans hz7).trans hz8) HB1.out.2.1)
    have cf46 := blk3 (Ext.block (((((((((hz2.trans hx2).trans ((Ext.refl _).drew)).trans hz3).trans hz4).trans hz5).trans ((Ext.refl _).drew)).trans hz6).trans hz7).trans hz8) HB1.out.2.2)
    have cf47 := blk3 (Ext.block (((((((((Ext.refl _).drew).trans hz3).trans hz4).trans hz5).trans ((Ext.refl _).drew)).trans hz6).trans hz7).trans hz8) HB2.out.1)
    have cf48 := blk3 (Ext.block (((((((((Ext.refl _).drew).trans hz3).trans hz4).trans hz5).trans ((Ext.refl _).drew)).trans hz6).trans hz7).trans hz8) HB2.out.2)
    go_wp2_with fail
    refine HK.out _ _ hz8 ?_
    clear HK K
    refine blkStep (fun K HK => ?_)
    simp only [pick, List.filterMap_cons, List.filterMap_nil, List.getElem?_toArray, List.getElem?_cons_zero, List.getElem?_cons_succ]
    go_wp2_with fail
    refine HK.out _ _ ?_
    clear HK K
    refine doneStep (by kernel_rfl) ?_
    go_wp2_with fail
    go_ret
    exact ⟨rfl, (((((((((((hz1.trans hx1).trans hz2).trans hx2).trans ((Ext.refl _).drew)).trans hz3).trans hz4).trans hz5).trans ((Ext.refl _).drew)).trans hz6).trans hz7).trans hz8)⟩
  · have ha1 : ((a.hops.length : Int) == 0) = false := by simp; exact List.ne_nil_of_length_pos ha0
    have hb0 : b.hops.length = 0 ∨ 0 < b.hops.length := by omega
    rcases hb0 with hb0 | hb0
    · have hb1 : ((b.hops.length : Int) == 0) = true := by simp; exact List.eq_nil_of_length_eq_zero hb0
      clear hb0
      try clear cf1
      try clear cf2
      try clear cf3
      have cf49 := blk2 (Ext.block (hz2.trans hx2) HB1.out.1)
      have cf50 := blk3 (Ext.block (hz2.trans hx2) HB1.out.2.1)
      have cf51 := blk3 (Ext.block (hz2.trans hx2) HB1.out.2.2)
      have cf52 := blk3 HB2.out.1
      have cf53 := blk3 HB2.out.2
      go_wp2_with fail
      refine planStep (.blk [0, 1, 2, 3, 5, 6, 7, 8] (.one 4 (.one 9 (.one 10 (.blk [11, 12, 13, 14, 15, 16, 17, 18, 19, 20, 21, 22, 23] .done))))) [] (by kernel_rfl) (by kernel_rfl) ?_
      try clear cf49
      try clear cf50
      try clear cf51
      try clear cf52
      try clear cf53
      have cf54 := blk2 (Ext.block ((hz2.trans hx2).trans ((Ext.refl _).drew)) HB1.out.1)
      have cf55 := blk3 (Ext.block ((hz2.trans hx2).trans ((Ext.refl _).drew)) HB1.out.2.1)
      have cf56 := blk3 (Ext.block ((hz2.trans hx2).trans ((Ext.refl _).drew)) HB1.out.2.2)
      have cf57 := blk3 (Ext.block ((Ext.refl _).drew) HB2.out.1)
      have cf58 := blk3 (Ext.block ((Ext.refl _).drew) HB2.out.2)
      refine blkStep (fun K HK => ?_)
      simp only [pick, List.filterMap_cons, List.filterMap_nil, List.getElem?_toArray, List.getElem?_cons_zero, List.getElem?_cons_succ]
      go_wp2_with fail
      refine HK.out _ _ ?_
      clear HK K
      refine oneStep (fun K HK => ?_)
      simp only [pick, List.filterMap_cons, List.filterMap_nil, List.getElem?_toArray, List.getElem?_cons_zero, List.getElem?_cons_succ]
      go_wp2_with fail
      refine (i_Splice c d i j _ _ _ (rC.ext (hx2.trans ((Ext.refl _).drew))) (rD.ext (hx2.trans ((Ext.refl _).drew))) (by omega) (by omega)).mono ?_
      rintro e w9 ⟨vx, rfl, OX, hz9⟩
      try clear cf54
      try clear cf55
      try clear cf56
      try clear cf57
      try clear cf58
      have cf59 := blk2 (Ext.block (((hz2.trans hx2).trans ((Ext.refl _).drew)).trans hz9) HB1.out.1)
      have cf60 := blk3 (Ext.block (((hz2.trans hx2).trans ((Ext.refl _).drew)).trans hz9) HB1.out.2.1)
      have cf61 := blk3 (Ext.block (((hz2.trans hx2).trans ((Ext.refl _).drew)).trans hz9) HB1.out.2.2)
      have cf62 := blk3 (Ext.block (((Ext.refl _).drew).trans hz9) HB2.out.1)
      have cf63 := blk3 (Ext.block (((Ext.refl _).drew).trans hz9) HB2.out.2)
      go_wp2_with fail
      refine HK.out _ _ hz9 ?_
      clear HK K
      refine oneStep (fun K HK => ?_)
      simp only [pick, List.filterMap_cons, List.filterMap_nil, List.getElem?_toArray, List.getElem?_cons_zero, List.getElem?_cons_succ]
      go_wp2_with fail
      refine (s_Splice c d i j _ _ _ (rC.ext ((hx2.trans ((Ext.refl _).drew)).trans hz9)) (rD.ext ((hx2.trans ((Ext.refl _).drew)).trans hz9)) (by omega) (by omega)).mono ?_
      rintro e w10 ⟨vy, rfl, OY, hz10⟩
      try clear cf59
      try clear cf60
      try clear cf61
      try clear cf62
      try clear cf63
      have cf64 := blk2 (Ext.block ((((hz2.trans hx2).trans ((Ext.refl _).drew)).trans hz9).trans hz10) HB1.out.1)
      have cf65 := blk3 (Ext.block ((((hz2.trans hx2).trans ((Ext.refl _).drew)).trans hz9).trans hz10) HB1.out.2.1)
      have cf66 := blk3 (Ext.block ((((hz2.trans hx2).trans ((Ext.refl _).drew)).trans hz9).trans hz10) HB1.out.2.2)
      have cf67 := blk3 (Ext.block ((((Ext.refl _).drew).trans hz9).trans hz10) HB2.out.1)
      have cf68 := blk3 (Ext.block ((((Ext.refl _).drew).trans hz9).trans hz10) HB2.out.2)
      go_wp2_with fail
      refine HK.out _ _ hz10 ?_
      clear HK K
      refine oneStep (fun K HK => ?_)
      simp only [pick, List.filterMap_cons, List.filterMap_nil, List.getElem?_toArray, List.getElem?_cons_zero, List.getElem?_cons_succ]
      go_wp2_with fail
      refine (l_sameSegT (splice c i d j) _ _ _ ((OwnF.rd (hf := Hop.flen) OX).ext hz10) (OwnF.rd (hf := Hop.flen) OY)).mono ?_
      rintro e w11 ⟨rfl, hz11⟩
      try clear cf64
      try clear cf65
      try clear cf66
      try clear cf67
      try clear cf68
      have cf69 := blk2 (Ext.block (((((hz2.trans hx2).trans ((Ext.refl _).drew)).trans hz9).trans hz10).trans hz11) HB1.out.1)
      have cf70 := blk3 (Ext.block (((((hz2.trans hx2).trans ((Ext.refl _).drew)).trans hz9).trans hz10).trans hz11) HB1.out.2.1)
      have cf71 := blk3 (Ext.block (((((hz2.trans hx2).trans ((Ext.refl _).drew)).trans hz9).trans hz10).trans hz11) HB1.out.2.2)
      have cf72 := blk3 (Ext.block (((((Ext.refl _).drew).trans hz9).trans hz10).trans hz11) HB2.out.1)
      have cf73 := blk3 (Ext.block (((((Ext.refl _).drew).trans hz9).trans hz10).trans hz11) HB2.out.2)
      go_wp2_with fail
      refine HK.out _ _ hz11 ?_
      clear HK K
      refine blkStep (fun K HK => ?_)
      simp only [pick, List.filterMap_cons, List.filterMap_nil, List.getElem?_toArray, List.getElem?_cons_zero, List.getElem?_cons_succ]
      go_wp2_with fail
      refine HK.out _ _ ?_
      clear HK K
      refine doneStep (by kernel_rfl) ?_
      clear OX OY
      go_wp2_with fail
      refine planStep (.blk [0, 1, 2, 3, 5, 6, 7, 8] (.one 4 (.one 9 (.one 10 (.blk [11] .done))))) [] (by kernel_rfl) (by kernel_rfl) ?_
      try clear cf69
      try clear cf70
      try clear cf71
      try clear cf72
      try clear cf73
      have cf74 := blk2 (Ext.block ((((((hz2.trans hx2).trans ((Ext.refl _).drew)).trans hz9).trans hz10).trans hz11).trans ((Ext.refl _).drew)) HB1.out.1)
      have cf75 := blk3 (Ext.block ((((((hz2.trans hx2).trans ((Ext.refl _).drew)).trans hz9).trans hz10).trans hz11).trans ((Ext.refl _).drew)) HB1.out.2.1)
      have cf76 := blk3 (Ext.block ((((((hz2.trans hx2).trans ((Ext.refl _).drew)).trans hz9).trans hz10).trans hz11).trans ((Ext.refl _).drew)) HB1.out.2.2)
      have cf77 := blk3 (Ext.block ((((((Ext.refl _).drew).trans hz9).trans hz10).trans hz11).trans ((Ext.refl _).drew)) HB2.out.1)
      have cf78 := blk3 (Ext.block ((((((Ext.refl _).drew).trans hz9).trans hz10).trans hz11).trans ((Ext.refl _).drew)) HB2.out.2)
      refine blkStep (fun K HK => ?_)
      simp only [pick, List.filterMap_cons, List.filterMap_nil, List.getElem?_toArray, List.getElem?_cons_zero, List.getElem?_cons_succ]
      go_wp2_with fail
      refine HK.out _ _ ?_
      clear HK K
      refine oneStep (fun K HK => ?_)
      simp only [pick, List.filterMap_cons, List.filterMap_nil, List.getElem?_toArray, List.getElem?_cons_zero, List.getElem?_cons_succ]
      go_wp2_with fail
      refine (i_Splice c d i j _ _ _ (rC.ext (((((hx2.trans ((Ext.refl _).drew)).trans hz9).trans hz10).trans hz11).trans ((Ext.refl _).drew))) (rD.ext (((((hx2.trans ((Ext.refl _).drew)).trans hz9).trans hz10).trans hz11).trans ((Ext.refl _).drew))) (by omega) (by omega)).mono ?_
      rintro e w12 ⟨vx, rfl, OX, hz12⟩
      try clear cf74
      try clear cf75
      try clear cf76
      try clear cf77
      try clear cf78
      have cf79 := blk2 (Ext.block (((((((hz2.trans hx2).trans ((Ext.refl _).drew)).trans hz9).trans hz10).trans hz11).trans ((Ext.refl _).drew)).trans hz12) HB1.out.1)
      have cf80 := blk3 (Ext.block (((((((hz2.trans hx2).trans ((Ext.refl _).drew)).trans hz9).trans hz10).trans hz11).trans ((Ext.refl _).drew)).trans hz12) HB1.out.2.1)
      have cf81 := blk3 (Ext.block (((((((hz2.trans hx2).trans ((Ext.refl _).drew)).trans hz9).trans hz10).trans hz11).trans ((Ext.refl _).drew)).trans hz12) HB1.out.2.2)
      have cf82 := blk3 (Ext.block (((((((Ext.refl _).drew).trans hz9).trans hz10).trans hz11).trans ((Ext.refl _).drew)).trans hz12) HB2.out.1)
      have cf83 := blk3 (Ext.block (((((((Ext.refl _).drew).trans hz9).trans hz10).trans hz11).trans ((Ext.refl _).drew)).trans hz12) HB2.out.2)
      go_wp2_with fail
      refine HK.out _ _ hz12 ?_
      clear HK K
      refine oneStep (fun K HK => ?_)
      simp only [pick, List.filterMap_cons, List.filterMap_nil, List.getElem?_toArray, List.getElem?_cons_zero, List.getElem?_cons_succ]
      go_wp2_with fail
      refine (s_Splice c d i j _ _ _ (rC.ext ((((((hx2.trans ((Ext.refl _).drew)).trans hz9).trans hz10).trans hz11).trans ((Ext.refl _).drew)).trans hz12)) (rD.ext ((((((hx2.trans ((Ext.refl _).drew)).trans hz9).trans hz10).trans hz11).trans ((Ext.refl _).drew)).trans hz12)) (by omega) (by omega)).mono ?_
      rintro e w13 ⟨vy, rfl, OY, hz13⟩
      try clear cf79
      try clear cf80
      try clear cf81
      try clear cf82
      try clear cf83
      have cf84 := blk2 (Ext.block ((((((((hz2.trans hx2).trans ((Ext.refl _).drew)).trans hz9).trans hz10).trans hz11).trans ((Ext.refl _).drew)).trans hz12).trans hz13) HB1.out.1)
      have cf85 := blk3 (Ext.block ((((((((hz2.trans hx2).trans ((Ext.refl _).drew)).trans hz9).trans hz10).trans hz11).trans ((Ext.refl _).drew)).trans hz12).trans hz13) HB1.out.2.1)
      have cf86 := blk3 (Ext.block ((((((((hz2.trans hx2).trans ((Ext.refl _).drew)).trans hz9).trans hz10).trans hz11).trans ((Ext.refl _).drew)).trans hz12).trans hz13) HB1.out.2.2)
      have cf87 := blk3 (Ext.block ((((((((Ext.refl _).drew).trans hz9).trans hz10).trans hz11).trans ((Ext.refl _).drew)).trans hz12).trans hz13) HB2.out.1)
      have cf88 := blk3 (Ext.block ((((((((Ext.refl _).drew).trans hz9).trans hz10).trans hz11).trans ((Ext.refl _).drew)).trans hz12).trans hz13) HB2.out.2)
      go_wp2_with fail
      refine HK.out _ _ hz13 ?_
      clear HK K
      refine oneStep (fun K HK => ?_)
      simp only [pick, List.filterMap_cons, List.filterMap_nil, List.getElem?_toArray, List.getElem?_cons_zero, List.getElem?_cons_succ]
      go_wp2_with fail
      refine (l_sameSegT (splice c i d j) _ _ _ ((OwnF.rd (hf := Hop.flen) OX).ext hz13) (OwnF.rd (hf := Hop.flen) OY)).mono ?_
      rintro e w14 ⟨rfl, hz14⟩
      try clear cf84
      try clear cf85
      try clear cf86
      try clear cf87
      try clear cf88
      have cf89 := blk2 (Ext.block (((((((((hz2.trans hx2).trans ((Ext.refl _).drew)).trans hz9).trans hz10).trans hz11).trans ((Ext.refl _).drew)).trans hz12).trans hz13).trans hz14) HB1.out.1)
      have cf90 := blk3 (Ext.block (((((((((hz2.trans hx2).trans ((Ext.refl _).drew)).trans hz9).trans hz10).trans hz11).trans ((Ext.refl _).drew)).trans hz12).trans hz13).trans hz14) HB1.out.2.1)
      have cf91 := blk3 (Ext.block (((((((((hz2.trans hx2).trans ((Ext.refl _).drew)).trans hz9).trans hz10).trans hz11).trans ((Ext.refl _).drew)).trans hz12).trans hz13).trans hz14) HB1.out.2.2)
      have cf92 := blk3 (Ext.block (((((((((Ext.refl _).drew).trans hz9).trans hz10).trans hz11).trans ((Ext.refl _).drew)).trans hz12).trans hz13).trans hz14) HB2.out.1)
      have cf93 := blk3 (Ext.block (((((((((Ext.refl _).drew).trans hz9).trans hz10).trans hz11).trans ((Ext.refl _).drew)).trans hz12).trans hz13).trans hz14) HB2.out.2)
      go_wp2_with fail
      refine HK.out _ _ hz14 ?_
      clear HK K
      refine blkStep (fun K HK => ?_)
      simp only [pick, List.filterMap_cons, List.filterMap_nil, List.getElem?_toArray, List.getElem?_cons_zero, List.getElem?_cons_succ]
      go_wp2_with fail
      refine HK.out _ _ ?_
      clear HK K
      refine doneStep (by kernel_rfl) ?_
      go_wp2_with fail
      go_ret
      exact ⟨rfl, (((((((((((hz1.trans hx1).trans hz2).trans hx2).trans ((Ext.refl _).drew)).trans hz9).trans hz10).trans hz11).trans ((Ext.refl _).drew)).trans hz12).trans hz13).trans hz14)⟩
    · have hb1 : ((b.hops.length : Int) == 0) = false := by simp; exact List.ne_nil_of_length_pos hb0
      try clear cf1
      try clear cf2
      try clear cf3
      have cf94 := blk2 (Ext.block (hz2.trans hx2) HB1.out.1)
      have cf95 := blk3 (Ext.block (hz2.trans hx2) HB1.out.2.1)
      have cf96 := blk3 (Ext.block (hz2.trans hx2) HB1.out.2.2)
      have cf97 := blk3 HB2.out.1
      have cf98 := blk3 HB2.out.2
      go_wp2_with fail
      refine planStep (.blk [0, 1, 2, 3, 5, 6, 7, 8] (.one 4 (.one 9 (.one 10 (.blk [11, 12, 13, 14, 15, 16, 17, 18, 19, 20, 21, 22, 23] .done))))) [] (by kernel_rfl) (by kernel_rfl) ?_
      try clear cf94
      try clear cf95
      try clear cf96
      try clear cf97
      try clear cf98
      have cf99 := blk2 (Ext.block ((hz2.trans hx2).trans ((Ext.refl _).drew)) HB1.out.1)
      have cf100 := blk3 (Ext.block ((hz2.trans hx2).trans ((Ext.refl _).drew)) HB1.out.2.1)
      have cf101 := blk3 (Ext.block ((hz2.trans hx2).trans ((Ext.refl _).drew)) HB1.out.2.2)
      have cf102 := blk3 (Ext.block ((Ext.refl _).drew) HB2.out.1)
      have cf103 := blk3 (Ext.block ((Ext.refl _).drew) HB2.out.2)
      refine blkStep (fun K HK => ?_)
      simp only [pick, List.filterMap_cons, List.filterMap_nil, List.getElem?_toArray, List.getElem?_cons_zero, List.getElem?_cons_succ]
      go_wp2_with fail
      refine HK.out _ _ ?_
      clear HK K
      refine oneStep (fun K HK => ?_)
      simp only [pick, List.filterMap_cons, List.filterMap_nil, List.getElem?_toArray, List.getElem?_cons_zero, List.getElem?_cons_succ]
      go_wp2_with fail
      refine (i_Splice c d i j _ _ _ (rC.ext (hx2.trans ((Ext.refl _).drew))) (rD.ext (hx2.trans ((Ext.refl _).drew))) (by omega) (by omega)).mono ?_
      rintro e w15 ⟨vx, rfl, OX, hz15⟩
      try clear cf99
      try clear cf100
      try clear cf101
      try clear cf102
      try clear cf103
      have cf104 := blk2 (Ext.block (((hz2.trans hx2).trans ((Ext.refl _).drew)).trans hz15) HB1.out.1)
      have cf105 := blk3 (Ext.block (((hz2.trans hx2).trans ((Ext.refl _).drew)).trans hz15) HB1.out.2.1)
      have cf106 := blk3 (Ext.block (((hz2.trans hx2).trans ((Ext.refl _).drew)).trans hz15) HB1.out.2.2)
      have cf107 := blk3 (Ext.block (((Ext.refl _).drew).trans hz15) HB2.out.1)
      have cf108 := blk3 (Ext.block (((Ext.refl _).drew).trans hz15) HB2.out.2)
      go_wp2_with fail
      refine HK.out _ _ hz15 ?_
      clear HK K
      refine oneStep (fun K HK => ?_)
      simp only [pick, List.filterMap_cons, List.filterMap_nil, List.getElem?_toArray, List.getElem?_cons_zero, List.getElem?_cons_succ]
      go_wp2_with fail
      refine (s_Splice c d i j _ _ _ (rC.ext ((hx2.trans ((Ext.refl _).drew)).trans hz15)) (rD.ext ((hx2.trans ((Ext.refl _).drew)).trans hz15)) (by omega) (by omega)).mono ?_
      rintro e w16 ⟨vy, rfl, OY, hz16⟩
      try clear cf104
      try clear cf105
      try clear cf106
      try clear cf107
      try clear cf108
      have cf109 := blk2 (Ext.block ((((hz2.trans hx2).trans ((Ext.refl _).drew)).trans hz15).trans hz16) HB1.out.1)
      have cf110 := blk3 (Ext.block ((((hz2.trans hx2).trans ((Ext.refl _).drew)).trans hz15).trans hz16) HB1.out.2.1)
      have cf111 := blk3 (Ext.block ((((hz2.trans hx2).trans ((Ext.refl _).drew)).trans hz15).trans hz16) HB1.out.2.2)
      have cf112 := blk3 (Ext.block ((((Ext.refl _).drew).trans hz15).trans hz16) HB2.out.1)
      have cf113 := blk3 (Ext.block ((((Ext.refl _).drew).trans hz15).trans hz16) HB2.out.2)
      go_wp2_with fail
      refine HK.out _ _ hz16 ?_
      clear HK K
      refine oneStep (fun K HK => ?_)
      simp only [pick, List.filterMap_cons, List.filterMap_nil, List.getElem?_toArray, List.getElem?_cons_zero, List.getElem?_cons_succ]
      go_wp2_with fail
      refine (l_sameSegT (splice c i d j) _ _ _ ((OwnF.rd (hf := Hop.flen) OX).ext hz16) (OwnF.rd (hf := Hop.flen) OY)).mono ?_
      rintro e w17 ⟨rfl, hz17⟩
      try clear cf109
      try clear cf110
      try clear cf111
      try clear cf112
      try clear cf113
      have cf114 := blk2 (Ext.block (((((hz2.trans hx2).trans ((Ext.refl _).drew)).trans hz15).trans hz16).trans hz17) HB1.out.1)
      have cf115 := blk3 (Ext.block (((((hz2.trans hx2).trans ((Ext.refl _).drew)).trans hz15).trans hz16).trans hz17) HB1.out.2.1)
      have cf116 := blk3 (Ext.block (((((hz2.trans hx2).trans ((Ext.refl _).drew)).trans hz15).trans hz16).trans hz17) HB1.out.2.2)
      have cf117 := blk3 (Ext.block (((((Ext.refl _).drew).trans hz15).trans hz16).trans hz17) HB2.out.1)
      have cf118 := blk3 (Ext.block (((((Ext.refl _).drew).trans hz15).trans hz16).trans hz17) HB2.out.2)
      go_wp2_with fail
      refine HK.out _ _ hz17 ?_
      clear HK K
      refine blkStep (fun K HK => ?_)
      simp only [pick, List.filterMap_cons, List.filterMap_nil, List.getElem?_toArray, List.getElem?_cons_zero, List.getElem?_cons_succ]
      go_wp2_with fail
      refine HK.out _ _ ?_
      clear HK K
      refine doneStep (by kernel_rfl) ?_
      clear OX OY
      have hda : ¬ ((a.hops.length : Int) + 1 = 0) := by omega
      have hdb : ¬ (b.hops = []) := List.ne_nil_of_length_pos hb0
      go_wp2_with fail
      refine planStep (.blk [0, 2, 3, 4, 5] (.one 1 (.blk [6, 7] .done))) [] (by kernel_rfl) (by kernel_rfl) ?_
      try clear cf114
      try clear cf115
      try clear cf116
      try clear cf117
      try clear cf118
      have cf119 := blk2 (Ext.block ((((((hz2.trans hx2).trans ((Ext.refl _).drew)).trans hz15).trans hz16).trans hz17).trans ((Ext.refl _).drew)) HB1.out.1)
      have cf120 := blk3 (Ext.block ((((((hz2.trans hx2).trans ((Ext.refl _).drew)).trans hz15).trans hz16).trans hz17).trans ((Ext.refl _).drew)) HB1.out.2.1)
      have cf121 := blk3 (Ext.block ((((((hz2.trans hx2).trans ((Ext.refl _).drew)).trans hz15).trans hz16).trans hz17).trans ((Ext.refl _).drew)) HB1.out.2.2)
      have cf122 := blk3 (Ext.block ((((((Ext.refl _).drew).trans hz15).trans hz16).trans hz17).trans ((Ext.refl _).drew)) HB2.out.1)
      have cf123 := blk3 (Ext.block ((((((Ext.refl _).drew).trans hz15).trans hz16).trans hz17).trans ((Ext.refl _).drew)) HB2.out.2)
      refine blkStep (fun K HK => ?_)
      simp only [pick, List.filterMap_cons, List.filterMap_nil, List.getElem?_toArray, List.getElem?_cons_zero, List.getElem?_cons_succ]
      go_wp2_with fail
      refine HK.out _ _ ?_
      clear HK K
      refine oneStep (fun K HK => ?_)
      simp only [pick, List.filterMap_cons, List.filterMap_nil, List.getElem?_toArray, List.getElem?_cons_zero, List.getElem?_cons_succ]
      go_wp2_with fail
      refine (l_atE code _ 2 _ (hr.ext ((((((((hz1.trans hx1).trans hz2).trans hx2).trans ((Ext.refl _).drew)).trans hz15).trans hz16).trans hz17).trans ((Ext.refl _).drew))) hu (by decide) (by decide) hl).mono ?_
      rintro e w18 ⟨r, rfl, hr0, hr1, hz18⟩
      try clear cf119
      try clear cf120
      try clear cf121
      try clear cf122
      try clear cf123
      have cf124 := blk2 (Ext.block (((((((hz2.trans hx2).trans ((Ext.refl _).drew)).trans hz15).trans hz16).trans hz17).trans ((Ext.refl _).drew)).trans hz18) HB1.out.1)
      have cf125 := blk3 (Ext.block (((((((hz2.trans hx2).trans ((Ext.refl _).drew)).trans hz15).trans hz16).trans hz17).trans ((Ext.refl _).drew)).trans hz18) HB1.out.2.1)
      have cf126 := blk3 (Ext.block (((((((hz2.trans hx2).trans ((Ext.refl _).drew)).trans hz15).trans hz16).trans hz17).trans ((Ext.refl _).drew)).trans hz18) HB1.out.2.2)
      have cf127 := blk3 (Ext.block (((((((Ext.refl _).drew).trans hz15).trans hz16).trans hz17).trans ((Ext.refl _).drew)).trans hz18) HB2.out.1)
      have cf128 := blk3 (Ext.block (((((((Ext.refl _).drew).trans hz15).trans hz16).trans hz17).trans ((Ext.refl _).drew)).trans hz18) HB2.out.2)
      go_wp2_with fail
      refine HK.out _ _ hz18 ?_
      clear HK K
      refine blkStep (fun K HK => ?_)
      simp only [pick, List.filterMap_cons, List.filterMap_nil, List.getElem?_toArray, List.getElem?_cons_zero, List.getElem?_cons_succ]
      go_wp2_with fail
      refine HK.out _ _ ?_
      clear HK K
      refine doneStep (by kernel_rfl) ?_
      obtain ⟨k, hk, hk1⟩ := emod_nat (r := r) (n := a.hops.length + 1) (by omega)
      have hk' : r % ((a.hops.length : Int) + 1) = (k : Int) := by rw [← hk]; congr 1
      rw [hk']
      clear hk hk' hr0 hr1
      go_wp2_with fail
      refine planStep (.blk [0, 2, 3, 4] (.one 1 (.blk [5, 6] .done))) [] (by kernel_rfl) (by kernel_rfl) ?_
      try clear cf124
      try clear cf125
      try clear cf126
      try clear cf127
      try clear cf128
      have cf129 := blk2 (Ext.block ((((((((hz2.trans hx2).trans ((Ext.refl _).drew)).trans hz15).trans hz16).trans hz17).trans ((Ext.refl _).drew)).trans hz18).trans ((Ext.refl _).drew)) HB1.out.1)
      have cf130 := blk3 (Ext.block ((((((((hz2.trans hx2).trans ((Ext.refl _).drew)).trans hz15).trans hz16).trans hz17).trans ((Ext.refl _).drew)).trans hz18).trans ((Ext.refl _).drew)) HB1.out.2.1)
      have cf131 := blk3 (Ext.block ((((((((hz2.trans hx2).trans ((Ext.refl _).drew)).trans hz15).trans hz16).trans hz17).trans ((Ext.refl _).drew)).trans hz18).trans ((Ext.refl _).drew)) HB1.out.2.2)
      have cf132 := blk3 (Ext.block ((((((((Ext.refl _).drew).trans hz15).trans hz16).trans hz17).trans ((Ext.refl _).drew)).trans hz18).trans ((Ext.refl _).drew)) HB2.out.1)
      have cf133 := blk3 (Ext.block ((((((((Ext.refl _).drew).trans hz15).trans hz16).trans hz17).trans ((Ext.refl _).drew)).trans hz18).trans ((Ext.refl _).drew)) HB2.out.2)
      refine blkStep (fun K HK => ?_)
      simp only [pick, List.filterMap_cons, List.filterMap_nil, List.getElem?_toArray, List.getElem?_cons_zero, List.getElem?_cons_succ]
      go_wp2_with fail
      refine HK.out _ _ ?_
      clear HK K
      refine oneStep (fun K HK => ?_)
      simp only [pick, List.filterMap_cons, List.filterMap_nil, List.getElem?_toArray, List.getElem?_cons_zero, List.getElem?_cons_succ]
      go_wp2_with fail
      refine (l_atE code _ 3 _ (hr.ext ((((((((((hz1.trans hx1).trans hz2).trans hx2).trans ((Ext.refl _).drew)).trans hz15).trans hz16).trans hz17).trans ((Ext.refl _).drew)).trans hz18).trans ((Ext.refl _).drew))) hu (by decide) (by decide) hl).mono ?_
      rintro e w19 ⟨r2, rfl, hr0, hr1, hz19⟩
      try clear cf129
      try clear cf130
      try clear cf131
      try clear cf132
      try clear cf133
      have cf134 := blk2 (Ext.block (((((((((hz2.trans hx2).trans ((Ext.refl _).drew)).trans hz15).trans hz16).trans hz17).trans ((Ext.refl _).drew)).trans hz18).trans ((Ext.refl _).drew)).trans hz19) HB1.out.1)
      have cf135 := blk3 (Ext.block (((((((((hz2.trans hx2).trans ((Ext.refl _).drew)).trans hz15).trans hz16).trans hz17).trans ((Ext.refl _).drew)).trans hz18).trans ((Ext.refl _).drew)).trans hz19) HB1.out.2.1)
      have cf136 := blk3 (Ext.block (((((((((hz2.trans hx2).trans ((Ext.refl _).drew)).trans hz15).trans hz16).trans hz17).trans ((Ext.refl _).drew)).trans hz18).trans ((Ext.refl _).drew)).trans hz19) HB1.out.2.2)
      have cf137 := blk3 (Ext.block (((((((((Ext.refl _).drew).trans hz15).trans hz16).trans hz17).trans ((Ext.refl _).drew)).trans hz18).trans ((Ext.refl _).drew)).trans hz19) HB2.out.1)
      have cf138 := blk3 (Ext.block (((((((((Ext.refl _).drew).trans hz15).trans hz16).trans hz17).trans ((Ext.refl _).drew)).trans hz18).trans ((Ext.refl _).drew)).trans hz19) HB2.out.2)
      go_wp2_with fail
      refine HK.out _ _ hz19 ?_
      clear HK K
      refine blkStep (fun K HK => ?_)
      simp only [pick, List.filterMap_cons, List.filterMap_nil, List.getElem?_toArray, List.getElem?_cons_zero, List.getElem?_cons_succ]
      go_wp2_with fail
      refine HK.out _ _ ?_
      clear HK K
      refine doneStep (by kernel_rfl) ?_
      obtain ⟨m, hm, hm1⟩ := emod_nat (r := r2) hb0
      rw [hm]
      clear hm hr0 hr1
      go_wp2_with fail
      refine (i_Splice a b k m _ _ _ (rH.ext ((((((((((hx1.trans hz2).trans hx2).trans ((Ext.refl _).drew)).trans hz15).trans hz16).trans hz17).trans ((Ext.refl _).drew)).trans hz18).trans ((Ext.refl _).drew)).trans hz19)) (rB.ext ((((((((((hx1.trans hz2).trans hx2).trans ((Ext.refl _).drew)).trans hz15).trans hz16).trans hz17).trans ((Ext.refl _).drew)).trans hz18).trans ((Ext.refl _).drew)).trans hz19)) (by omega) (by omega)).mono ?_
      rintro e w20 ⟨vx, rfl, OX, hz20⟩
      obtain ⟨X, hX⟩ : ∃ X, X = splice a k b m := ⟨_, rfl⟩
      rw [← hX] at OX ⊢
      have HX := Lib.hid hX
      clear hX
      obtain ⟨o_X, c_X, rfl, _⟩ := (OwnF.rd (hf := Hop.flen) OX).shape
      have rX := OwnF.rd (hf := Hop.flen) OX
      clear OX
      have hx3 : Ext w20 (w20.alloc (.cells #[.int .i64 X.ts, .int .i64 X.beta, .slice o_X X.hops.length c_X] 62)) := (Ext.refl _).alloc _
      have HB3 := Lib.hid (blk_new w20 (.cells #[.int .i64 X.ts, .int .i64 X.beta, .slice o_X X.hops.length c_X] 62))
      try clear cf134
      try clear cf135
      try clear cf136
      try clear cf137
      try clear cf138
      have cf139 := blk2 (Ext.block (((((((((((hz2.trans hx2).trans ((Ext.refl _).drew)).trans hz15).trans hz16).trans hz17).trans ((Ext.refl _).drew)).trans hz18).trans ((Ext.refl _).drew)).trans hz19).trans hz20).trans hx3) HB1.out.1)
      have cf140 := blk3 (Ext.block (((((((((((hz2.trans hx2).trans ((Ext.refl _).drew)).trans hz15).trans hz16).trans hz17).trans ((Ext.refl _).drew)).trans hz18).trans ((Ext.refl _).drew)).trans hz19).trans hz20).trans hx3) HB1.out.2.1)
      have cf141 := blk3 (Ext.block (((((((((((hz2.trans hx2).trans ((Ext.refl _).drew)).trans hz15).trans hz16).trans hz17).trans ((Ext.refl _).drew)).trans hz18).trans ((Ext.refl _).drew)).trans hz19).trans hz20).trans hx3) HB1.out.2.2)
      have cf142 := blk3 (Ext.block (((((((((((Ext.refl _).drew).trans hz15).trans hz16).trans hz17).trans ((Ext.refl _).drew)).trans hz18).trans ((Ext.refl _).drew)).trans hz19).trans hz20).trans hx3) HB2.out.1)
      have cf143 := blk3 (Ext.block (((((((((((Ext.refl _).drew).trans hz15).trans hz16).trans hz17).trans ((Ext.refl _).drew)).trans hz18).trans ((Ext.refl _).drew)).trans hz19).trans hz20).trans hx3) HB2.out.2)
      have cf144 := blk3 HB3.out
      go_wp2_with fail
      refine (i_Splice a a k k _ _ _ (rH.ext ((((((((((((hx1.trans hz2).trans hx2).trans ((Ext.refl _).drew)).trans hz15).trans hz16).trans hz17).trans ((Ext.refl _).drew)).trans hz18).trans ((Ext.refl _).drew)).trans hz19).trans hz20).trans hx3)) (rH.ext ((((((((((((hx1.trans hz2).trans hx2).trans ((Ext.refl _).drew)).trans hz15).trans hz16).trans hz17).trans ((Ext.refl _).drew)).trans hz18).trans ((Ext.refl _).drew)).trans hz19).trans hz20).trans hx3)) (by omega) (by omega)).mono ?_
      rintro e w21 ⟨vy, rfl, OY, hz21⟩
      rw [splice_self (show k ≤ a.hops.length by omega)] at OY ⊢
      obtain ⟨o_y, c_y, rfl, _⟩ := (OwnF.rd (hf := Hop.flen) OY).shape
      have rY := OwnF.rd (hf := Hop.flen) OY
      clear OY
      have hx4 : Ext w21 (w21.alloc (.cells #[.int .i64 a.ts, .int .i64 a.beta, .slice o_y a.hops.length c_y] 62)) := (Ext.refl _).alloc _
      have HB4 := Lib.hid (blk_new w21 (.cells #[.int .i64 a.ts, .int .i64 a.beta, .slice o_y a.hops.length c_y] 62))
      try clear cf139
      try clear cf140
      try clear cf141
      try clear cf142
      try clear cf143
      try clear cf144
      have cf145 := blk2 (Ext.block (((((((((((((hz2.trans hx2).trans ((Ext.refl _).drew)).trans hz15).trans hz16).trans hz17).trans ((Ext.refl _).drew)).trans hz18).trans ((Ext.refl _).drew)).trans hz19).trans hz20).trans hx3).trans hz21).trans hx4) HB1.out.1)
      have cf146 := blk3 (Ext.block (((((((((((((hz2.trans hx2).trans ((Ext.refl _).drew)).trans hz15).trans hz16).trans hz17).trans ((Ext.refl _).drew)).trans hz18).trans ((Ext.refl _).drew)).trans hz19).trans hz20).trans hx3).trans hz21).trans hx4) HB1.out.2.1)
      have cf147 := blk3 (Ext.block (((((((((((((hz2.trans hx2).trans ((Ext.refl _).drew)).trans hz15).trans hz16).trans hz17).trans ((Ext.refl _).drew)).trans hz18).trans ((Ext.refl _).drew)).trans hz19).trans hz20).trans hx3).trans hz21).trans hx4) HB1.out.2.2)
      have cf148 := blk3 (Ext.block (((((((((((((Ext.refl _).drew).trans hz15).trans hz16).trans hz17).trans ((Ext.refl _).drew)).trans hz18).trans ((Ext.refl _).drew)).trans hz19).trans hz20).trans hx3).trans hz21).trans hx4) HB2.out.1)
      have cf149 := blk3 (Ext.block (((((((((((((Ext.refl _).drew).trans hz15).trans hz16).trans hz17).trans ((Ext.refl _).drew)).trans hz18).trans ((Ext.refl _).drew)).trans hz19).trans hz20).trans hx3).trans hz21).trans hx4) HB2.out.2)
      have cf150 := blk3 (Ext.block (hz21.trans hx4) HB3.out)
      have cf151 := blk3 HB4.out
      go_wp2_with fail
      refine (l_sameSegT a _ _ _ (rY.ext hx4) (rH.ext ((((((((((((((hx1.trans hz2).trans hx2).trans ((Ext.refl _).drew)).trans hz15).trans hz16).trans hz17).trans ((Ext.refl _).drew)).trans hz18).trans ((Ext.refl _).drew)).trans hz19).trans hz20).trans hx3).trans hz21).trans hx4))).mono ?_
      rintro e w22 ⟨rfl, hz22⟩
      obtain ⟨bm, offm, rfl, hcm⟩ := Hop.at (rB.ext (((((((((((((((hx1.trans hz2).trans hx2).trans ((Ext.refl _).drew)).trans hz15).trans hz16).trans hz17).trans ((Ext.refl _).drew)).trans hz18).trans ((Ext.refl _).drew)).trans hz19).trans hz20).trans hx3).trans hz21).trans hx4).trans hz22)) m hm1
      try clear cf145
      try clear cf146
      try clear cf147
      try clear cf148
      try clear cf149
      try clear cf150
      try clear cf151
      have cf152 := blk2 (Ext.block ((((((((((((((hz2.trans hx2).trans ((Ext.refl _).drew)).trans hz15).trans hz16).trans hz17).trans ((Ext.refl _).drew)).trans hz18).trans ((Ext.refl _).drew)).trans hz19).trans hz20).trans hx3).trans hz21).trans hx4).trans hz22) HB1.out.1)
      have cf153 := blk3 (Ext.block ((((((((((((((hz2.trans hx2).trans ((Ext.refl _).drew)).trans hz15).trans hz16).trans hz17).trans ((Ext.refl _).drew)).trans hz18).trans ((Ext.refl _).drew)).trans hz19).trans hz20).trans hx3).trans hz21).trans hx4).trans hz22) HB1.out.2.1)
      have cf154 := blk3 (Ext.block ((((((((((((((hz2.trans hx2).trans ((Ext.refl _).drew)).trans hz15).trans hz16).trans hz17).trans ((Ext.refl _).drew)).trans hz18).trans ((Ext.refl _).drew)).trans hz19).trans hz20).trans hx3).trans hz21).trans hx4).trans hz22) HB1.out.2.2)
      have cf155 := blk3 (Ext.block ((((((((((((((Ext.refl _).drew).trans hz15).trans hz16).trans hz17).trans ((Ext.refl _).drew)).trans hz18).trans ((Ext.refl _).drew)).trans hz19).trans hz20).trans hx3).trans hz21).trans hx4).trans hz22) HB2.out.1)
      have cf156 := blk3 (Ext.block ((((((((((((((Ext.refl _).drew).trans hz15).trans hz16).trans hz17).trans ((Ext.refl _).drew)).trans hz18).trans ((Ext.refl _).drew)).trans hz19).trans hz20).trans hx3).trans hz21).trans hx4).trans hz22) HB2.out.2)
      have cf157 := blk3 (Ext.block ((hz21.trans hx4).trans hz22) HB3.out)
      have cf158 := blk3 (Ext.block hz22 HB4.out)
      go_wp2_with fail
      refine planStep (.blk [0, 1, 2, 3, 4, 6, 7, 8, 9, 10] (.one 5 (.one 11 (.blk [12] .done)))) [] (by kernel_rfl) (by kernel_rfl) ?_
      try clear cf152
      try clear cf153
      try clear cf154
      try clear cf155
      try clear cf156
      try clear cf157
      try clear cf158
      have cf159 := blk2 (Ext.block (((((((((((((((hz2.trans hx2).trans ((Ext.refl _).drew)).trans hz15).trans hz16).trans hz17).trans ((Ext.refl _).drew)).trans hz18).trans ((Ext.refl _).drew)).trans hz19).trans hz20).trans hx3).trans hz21).trans hx4).trans hz22).trans ((Ext.refl _).drew)) HB1.out.1)
      have cf160 := blk3 (Ext.block (((((((((((((((hz2.trans hx2).trans ((Ext.refl _).drew)).trans hz15).trans hz16).trans hz17).trans ((Ext.refl _).drew)).trans hz18).trans ((Ext.refl _).drew)).trans hz19).trans hz20).trans hx3).trans hz21).trans hx4).trans hz22).trans ((Ext.refl _).drew)) HB1.out.2.1)
      have cf161 := blk3 (Ext.block (((((((((((((((hz2.trans hx2).trans ((Ext.refl _).drew)).trans hz15).trans hz16).trans hz17).trans ((Ext.refl _).drew)).trans hz18).trans ((Ext.refl _).drew)).trans hz19).trans hz20).trans hx3).trans hz21).trans hx4).trans hz22).trans ((Ext.refl _).drew)) HB1.out.2.2)
      have cf162 := blk3 (Ext.block (((((((((((((((Ext.refl _).drew).trans hz15).trans hz16).trans hz17).trans ((Ext.refl _).drew)).trans hz18).trans ((Ext.refl _).drew)).trans hz19).trans hz20).trans hx3).trans hz21).trans hx4).trans hz22).trans ((Ext.refl _).drew)) HB2.out.1)
      have cf163 := blk3 (Ext.block (((((((((((((((Ext.refl _).drew).trans hz15).trans hz16).trans hz17).trans ((Ext.refl _).drew)).trans hz18).trans ((Ext.refl _).drew)).trans hz19).trans hz20).trans hx3).trans hz21).trans hx4).trans hz22).trans ((Ext.refl _).drew)) HB2.out.2)
      have cf164 := blk3 (Ext.block (((hz21.trans hx4).trans hz22).trans ((Ext.refl _).drew)) HB3.out)
      have cf165 := blk3 (Ext.block (hz22.trans ((Ext.refl _).drew)) HB4.out)
      have cf166 := Hop.at_ext ((Ext.refl _).drew) hcm
      refine blkStep (fun K HK => ?_)
      simp only [pick, List.filterMap_cons, List.filterMap_nil, List.getElem?_toArray, List.getElem?_cons_zero, List.getElem?_cons_succ]
      go_wp2_with fail
      refine HK.out _ _ ?_
      clear HK K
      refine oneStep (fun K HK => ?_)
      simp only [pick, List.filterMap_cons, List.filterMap_nil, List.getElem?_toArray, List.getElem?_cons_zero, List.getElem?_cons_succ]
      go_wp2_with fail
      refine (i_BetaAt a _ (k : Int) _ (rH.ext ((((((((((((((((hx1.trans hz2).trans hx2).trans ((Ext.refl _).drew)).trans hz15).trans hz16).trans hz17).trans ((Ext.refl _).drew)).trans hz18).trans ((Ext.refl _).drew)).trans hz19).trans hz20).trans hx3).trans hz21).trans hx4).trans hz22).trans ((Ext.refl _).drew))) (by omega)).mono ?_
      rintro e w23 ⟨rfl, hz23⟩
      generalize hbe : betaAt a k = be
      have HBE := Lib.hid hbe
      clear hbe
      try clear cf159
      try clear cf160
      try clear cf161
      try clear cf162
      try clear cf163
      try clear cf164
      try clear cf165
      try clear cf166
      have cf167 := blk2 (Ext.block ((((((((((((((((hz2.trans hx2).trans ((Ext.refl _).drew)).trans hz15).trans hz16).trans hz17).trans ((Ext.refl _).drew)).trans hz18).trans ((Ext.refl _).drew)).trans hz19).trans hz20).trans hx3).trans hz21).trans hx4).trans hz22).trans ((Ext.refl _).drew)).trans hz23) HB1.out.1)
      have cf168 := blk3 (Ext.block ((((((((((((((((hz2.trans hx2).trans ((Ext.refl _).drew)).trans hz15).trans hz16).trans hz17).trans ((Ext.refl _).drew)).trans hz18).trans ((Ext.refl _).drew)).trans hz19).trans hz20).trans hx3).trans hz21).trans hx4).trans hz22).trans ((Ext.refl _).drew)).trans hz23) HB1.out.2.1)
      have cf169 := blk3 (Ext.block ((((((((((((((((hz2.trans hx2).trans ((Ext.refl _).drew)).trans hz15).trans hz16).trans hz17).trans ((Ext.refl _).drew)).trans hz18).trans ((Ext.refl _).drew)).trans hz19).trans hz20).trans hx3).trans hz21).trans hx4).trans hz22).trans ((Ext.refl _).drew)).trans hz23) HB1.out.2.2)
      have cf170 := blk3 (Ext.block ((((((((((((((((Ext.refl _).drew).trans hz15).trans hz16).trans hz17).trans ((Ext.refl _).drew)).trans hz18).trans ((Ext.refl _).drew)).trans hz19).trans hz20).trans hx3).trans hz21).trans hx4).trans hz22).trans ((Ext.refl _).drew)).trans hz23) HB2.out.1)
      have cf171 := blk3 (Ext.block ((((((((((((((((Ext.refl _).drew).trans hz15).trans hz16).trans hz17).trans ((Ext.refl _).drew)).trans hz18).trans ((Ext.refl _).drew)).trans hz19).trans hz20).trans hx3).trans hz21).trans hx4).trans hz22).trans ((Ext.refl _).drew)).trans hz23) HB2.out.2)
      have cf172 := blk3 (Ext.block ((((hz21.trans hx4).trans hz22).trans ((Ext.refl _).drew)).trans hz23) HB3.out)
      have cf173 := blk3 (Ext.block ((hz22.trans ((Ext.refl _).drew)).trans hz23) HB4.out)
      have cf174 := Hop.at_ext (((Ext.refl _).drew).trans hz23) hcm
      go_wp2_with fail
      refine HK.out _ _ hz23 ?_
      clear HK K
      refine oneStep (fun K HK => ?_)
      simp only [pick, List.filterMap_cons, List.filterMap_nil, List.getElem?_toArray, List.getElem?_cons_zero, List.getElem?_cons_succ]
      go_wp2_with fail
      refine (i_VerifyHop t _ _ a.ts be b.hops[m] _ (rA.ext (((((((((((((((((hx1.trans hz2).trans hx2).trans ((Ext.refl _).drew)).trans hz15).trans hz16).trans hz17).trans ((Ext.refl _).drew)).trans hz18).trans ((Ext.refl _).drew)).trans hz19).trans hz20).trans hx3).trans hz21).trans hx4).trans hz22).trans ((Ext.refl _).drew)).trans hz23))).mono ?_
      rintro e w24 ⟨rfl, hz24⟩
      try clear cf167
      try clear cf168
      try clear cf169
      try clear cf170
      try clear cf171
      try clear cf172
      try clear cf173
      try clear cf174
      have cf175 := blk2 (Ext.block (((((((((((((((((hz2.trans hx2).trans ((Ext.refl _).drew)).trans hz15).trans hz16).trans hz17).trans ((Ext.refl _).drew)).trans hz18).trans ((Ext.refl _).drew)).trans hz19).trans hz20).trans hx3).trans hz21).trans hx4).trans hz22).trans ((Ext.refl _).drew)).trans hz23).trans hz24) HB1.out.1)
      have cf176 := blk3 (Ext.block (((((((((((((((((hz2.trans hx2).trans ((Ext.refl _).drew)).trans hz15).trans hz16).trans hz17).trans ((Ext.refl _).drew)).trans hz18).trans ((Ext.refl _).drew)).trans hz19).trans hz20).trans hx3).trans hz21).trans hx4).trans hz22).trans ((Ext.refl _).drew)).trans hz23).trans hz24) HB1.out.2.1)
      have cf177 := blk3 (Ext.block (((((((((((((((((hz2.trans hx2).trans ((Ext.refl _).drew)).trans hz15).trans hz16).trans hz17).trans ((Ext.refl _).drew)).trans hz18).trans ((Ext.refl _).drew)).trans hz19).trans hz20).trans hx3).trans hz21).trans hx4).trans hz22).trans ((Ext.refl _).drew)).trans hz23).trans hz24) HB1.out.2.2)
      have cf178 := blk3 (Ext.block (((((((((((((((((Ext.refl _).drew).trans hz15).trans hz16).trans hz17).trans ((Ext.refl _).drew)).trans hz18).trans ((Ext.refl _).drew)).trans hz19).trans hz20).trans hx3).trans hz21).trans hx4).trans hz22).trans ((Ext.refl _).drew)).trans hz23).trans hz24) HB2.out.1)
      have cf179 := blk3 (Ext.block (((((((((((((((((Ext.refl _).drew).trans hz15).trans hz16).trans hz17).trans ((Ext.refl _).drew)).trans hz18).trans ((Ext.refl _).drew)).trans hz19).trans hz20).trans hx3).trans hz21).trans hx4).trans hz22).trans ((Ext.refl _).drew)).trans hz23).trans hz24) HB2.out.2)
      have cf180 := blk3 (Ext.block (((((hz21.trans hx4).trans hz22).trans ((Ext.refl _).drew)).trans hz23).trans hz24) HB3.out)
      have cf181 := blk3 (Ext.block (((hz22.trans ((Ext.refl _).drew)).trans hz23).trans hz24) HB4.out)
      have cf182 := Hop.at_ext ((((Ext.refl _).drew).trans hz23).trans hz24) hcm
      go_wp2_with fail
      refine HK.out _ _ hz24 ?_
      clear HK K
      refine blkStep (fun K HK => ?_)
      simp only [pick, List.filterMap_cons, List.filterMap_nil, List.getElem?_toArray, List.getElem?_cons_zero, List.getElem?_cons_succ]
      go_wp2_with fail
      refine HK.out _ _ ?_
      clear HK K
      refine doneStep (by kernel_rfl) ?_
      have hlX : X.hops.length ≤ 1000 := by rw [HX.out, splice_yes (show k ≤ a.hops.length by omega) (show m ≤ b.hops.length by omega)]; simp; omega
      have LAW := Lib.hid (splice_law (SD.ver TK) (show k ≤ a.hops.length by omega) hm1)
      go_wp2_with fail
      refine (i_FirstInvalidHop t _ _ X _ _ (rA.ext ((((((((((((((((((hx1.trans hz2).trans hx2).trans ((Ext.refl _).drew)).trans hz15).trans hz16).trans hz17).trans ((Ext.refl _).drew)).trans hz18).trans ((Ext.refl _).drew)).trans hz19).trans hz20).trans hx3).trans hz21).trans hx4).trans hz22).trans ((Ext.refl _).drew)).trans hz23).trans hz24)) (rX.ext ((((((hx3.trans hz21).trans hx4).trans hz22).trans ((Ext.refl _).drew)).trans hz23).trans hz24)) (by omega)).mono ?_
      rintro e w25 ⟨rfl, hz25⟩
      have LW := LAW.out
      rw [HBE.out, ← HX.out] at LW
      clear LAW
      generalize firstBad t X = fb at LW ⊢
      cases hv : verHop t a.ts be b.hops[m]
      · rw [hv, if_neg (by decide)] at LW
        have hfb : (fb == (k : Int)) = true := by rw [LW]; simp
        clear LW
        try clear cf175
        try clear cf176
        try clear cf177
        try clear cf178
        try clear cf179
        try clear cf180
        try clear cf181
        try clear cf182
        have cf183 := blk2 (Ext.block ((((((((((((((((((hz2.trans hx2).trans ((Ext.refl _).drew)).trans hz15).trans hz16).trans hz17).trans ((Ext.refl _).drew)).trans hz18).trans ((Ext.refl _).drew)).trans hz19).trans hz20).trans hx3).trans hz21).trans hx4).trans hz22).trans ((Ext.refl _).drew)).trans hz23).trans hz24).trans hz25) HB1.out.1)
        have cf184 := blk3 (Ext.block ((((((((((((((((((hz2.trans hx2).trans ((Ext.refl _).drew)).trans hz15).trans hz16).trans hz17).trans ((Ext.refl _).drew)).trans hz18).trans ((Ext.refl _).drew)).trans hz19).trans hz20).trans hx3).trans hz21).trans hx4).trans hz22).trans ((Ext.refl _).drew)).trans hz23).trans hz24).trans hz25) HB1.out.2.1)
        have cf185 := blk3 (Ext.block ((((((((((((((((((hz2.trans hx2).trans ((Ext.refl _).drew)).trans hz15).trans hz16).trans hz17).trans ((Ext.refl _).drew)).trans hz18).trans ((Ext.refl _).drew)).trans hz19).trans hz20).trans hx3).trans hz21).trans hx4).trans hz22).trans ((Ext.refl _).drew)).trans hz23).trans hz24).trans hz25) HB1.out.2.2)
        have cf186 := blk3 (Ext.block ((((((((((((((((((Ext.refl _).drew).trans hz15).trans hz16).trans hz17).trans ((Ext.refl _).drew)).trans hz18).trans ((Ext.refl _).drew)).trans hz19).trans hz20).trans hx3).trans hz21).trans hx4).trans hz22).trans ((Ext.refl _).drew)).trans hz23).trans hz24).trans hz25) HB2.out.1)
        have cf187 := blk3 (Ext.block ((((((((((((((((((Ext.refl _).drew).trans hz15).trans hz16).trans hz17).trans ((Ext.refl _).drew)).trans hz18).trans ((Ext.refl _).drew)).trans hz19).trans hz20).trans hx3).trans hz21).trans hx4).trans hz22).trans ((Ext.refl _).drew)).trans hz23).trans hz24).trans hz25) HB2.out.2)
        have cf188 := blk3 (Ext.block ((((((hz21.trans hx4).trans hz22).trans ((Ext.refl _).drew)).trans hz23).trans hz24).trans hz25) HB3.out)
        have cf189 := blk3 (Ext.block ((((hz22.trans ((Ext.refl _).drew)).trans hz23).trans hz24).trans hz25) HB4.out)
        have cf190 := Hop.at_ext (((((Ext.refl _).drew).trans hz23).trans hz24).trans hz25) hcm
        go_wp2_with fail
        go_ret
        exact ⟨rfl, ((((((((((((((((((((hz1.trans hx1).trans hz2).trans hx2).trans ((Ext.refl _).drew)).trans hz15).trans hz16).trans hz17).trans ((Ext.refl _).drew)).trans hz18).trans ((Ext.refl _).drew)).trans hz19).trans hz20).trans hx3).trans hz21).trans hx4).trans hz22).trans ((Ext.refl _).drew)).trans hz23).trans hz24).trans hz25)⟩
      · rw [hv, if_pos rfl] at LW
        have hlo : fb < 0 ∨ (¬ fb < 0 ∧ (k : Int) < fb) := by omega
        clear LW
        rcases hlo with hlo | ⟨hlo, hlo2⟩
        · try clear cf175
          try clear cf176
          try clear cf177
          try clear cf178
          try clear cf179
          try clear cf180
          try clear cf181
          try clear cf182
          have cf191 := blk2 (Ext.block ((((((((((((((((((hz2.trans hx2).trans ((Ext.refl _).drew)).trans hz15).trans hz16).trans hz17).trans ((Ext.refl _).drew)).trans hz18).trans ((Ext.refl _).drew)).trans hz19).trans hz20).trans hx3).trans hz21).trans hx4).trans hz22).trans ((Ext.refl _).drew)).trans hz23).trans hz24).trans hz25) HB1.out.1)
          have cf192 := blk3 (Ext.block ((((((((((((((((((hz2.trans hx2).trans ((Ext.refl _).drew)).trans hz15).trans hz16).trans hz17).trans ((Ext.refl _).drew)).trans hz18).trans ((Ext.refl _).drew)).trans hz19).trans hz20).trans hx3).trans hz21).trans hx4).trans hz22).trans ((Ext.refl _).drew)).trans hz23).trans hz24).trans hz25) HB1.out.2.1)
          have cf193 := blk3 (Ext.block ((((((((((((((((((hz2.trans hx2).trans ((Ext.refl _).drew)).trans hz15).trans hz16).trans hz17).trans ((Ext.refl _).drew)).trans hz18).trans ((Ext.refl _).drew)).trans hz19).trans hz20).trans hx3).trans hz21).trans hx4).trans hz22).trans ((Ext.refl _).drew)).trans hz23).trans hz24).trans hz25) HB1.out.2.2)
          have cf194 := blk3 (Ext.block ((((((((((((((((((Ext.refl _).drew).trans hz15).trans hz16).trans hz17).trans ((Ext.refl _).drew)).trans hz18).trans ((Ext.refl _).drew)).trans hz19).trans hz20).trans hx3).trans hz21).trans hx4).trans hz22).trans ((Ext.refl _).drew)).trans hz23).trans hz24).trans hz25) HB2.out.1)
          have cf195 := blk3 (Ext.block ((((((((((((((((((Ext.refl _).drew).trans hz15).trans hz16).trans hz17).trans ((Ext.refl _).drew)).trans hz18).trans ((Ext.refl _).drew)).trans hz19).trans hz20).trans hx3).trans hz21).trans hx4).trans hz22).trans ((Ext.refl _).drew)).trans hz23).trans hz24).trans hz25) HB2.out.2)
          have cf196 := blk3 (Ext.block ((((((hz21.trans hx4).trans hz22).trans ((Ext.refl _).drew)).trans hz23).trans hz24).trans hz25) HB3.out)
          have cf197 := blk3 (Ext.block ((((hz22.trans ((Ext.refl _).drew)).trans hz23).trans hz24).trans hz25) HB4.out)
          have cf198 := Hop.at_ext (((((Ext.refl _).drew).trans hz23).trans hz24).trans hz25) hcm
          go_wp2_with fail
          go_ret
          exact ⟨rfl, ((((((((((((((((((((hz1.trans hx1).trans hz2).trans hx2).trans ((Ext.refl _).drew)).trans hz15).trans hz16).trans hz17).trans ((Ext.refl _).drew)).trans hz18).trans ((Ext.refl _).drew)).trans hz19).trans hz20).trans hx3).trans hz21).trans hx4).trans hz22).trans ((Ext.refl _).drew)).trans hz23).trans hz24).trans hz25)⟩
        · try clear cf175
          try clear cf176
          try clear cf177
          try clear cf178
          try clear cf179
          try clear cf180
          try clear cf181
          try clear cf182
          have cf199 := blk2 (Ext.block ((((((((((((((((((hz2.trans hx2).trans ((Ext.refl _).drew)).trans hz15).trans hz16).trans hz17).trans ((Ext.refl _).drew)).trans hz18).trans ((Ext.refl _).drew)).trans hz19).trans hz20).trans hx3).trans hz21).trans hx4).trans hz22).trans ((Ext.refl _).drew)).trans hz23).trans hz24).trans hz25) HB1.out.1)
          have cf200 := blk3 (Ext.block ((((((((((((((((((hz2.trans hx2).trans ((Ext.refl _).drew)).trans hz15).trans hz16).trans hz17).trans ((Ext.refl _).drew)).trans hz18).trans ((Ext.refl _).drew)).trans hz19).trans hz20).trans hx3).trans hz21).trans hx4).trans hz22).trans ((Ext.refl _).drew)).trans hz23).trans hz24).trans hz25) HB1.out.2.1)
          have cf201 := blk3 (Ext.block ((((((((((((((((((hz2.trans hx2).trans ((Ext.refl _).drew)).trans hz15).trans hz16).trans hz17).trans ((Ext.refl _).drew)).trans hz18).trans ((Ext.refl _).drew)).trans hz19).trans hz20).trans hx3).trans hz21).trans hx4).trans hz22).trans ((Ext.refl _).drew)).trans hz23).trans hz24).trans hz25) HB1.out.2.2)
          have cf202 := blk3 (Ext.block ((((((((((((((((((Ext.refl _).drew).trans hz15).trans hz16).trans hz17).trans ((Ext.refl _).drew)).trans hz18).trans ((Ext.refl _).drew)).trans hz19).trans hz20).trans hx3).trans hz21).trans hx4).trans hz22).trans ((Ext.refl _).drew)).trans hz23).trans hz24).trans hz25) HB2.out.1)
          have cf203 := blk3 (Ext.block ((((((((((((((((((Ext.refl _).drew).trans hz15).trans hz16).trans hz17).trans ((Ext.refl _).drew)).trans hz18).trans ((Ext.refl _).drew)).trans hz19).trans hz20).trans hx3).trans hz21).trans hx4).trans hz22).trans ((Ext.refl _).drew)).trans hz23).trans hz24).trans hz25) HB2.out.2)
          have cf204 := blk3 (Ext.block ((((((hz21.trans hx4).trans hz22).trans ((Ext.refl _).drew)).trans hz23).trans hz24).trans hz25) HB3.out)
          have cf205 := blk3 (Ext.block ((((hz22.trans ((Ext.refl _).drew)).trans hz23).trans hz24).trans hz25) HB4.out)
          have cf206 := Hop.at_ext (((((Ext.refl _).drew).trans hz23).trans hz24).trans hz25) hcm
          go_wp2_with fail
          go_ret
          exact ⟨rfl, ((((((((((((((((((((hz1.trans hx1).trans hz2).trans hx2).trans ((Ext.refl _).drew)).trans hz15).trans hz16).trans hz17).trans ((Ext.refl _).drew)).trans hz18).trans ((Ext.refl _).drew)).trans hz19).trans hz20).trans hx3).trans hz21).trans hx4).trans hz22).trans ((Ext.refl _).drew)).trans hz23).trans hz24).trans hz25)⟩


set_option maxRecDepth 100000 in
theorem FnSplices_lifted (os : Os) (started : os.Started) (H : Type) (enc : TypeId × Value → H) :
    ReturnsInHanded {} Try.checked os 5 .any (Rows.fnSplicesSpec.pre6 enc Try.prog Try.f5 Rows.fnSplicesRow.domain false) (Rows.fnSplicesSpec.post enc Try.prog Try.f5 false true false false) := by
  refine returnsInHanded_of_change (C := Try.checked) own_knob started (by kernel_rfl) Try.func5
    (ChangeSpec.witness6 (enc := enc) (C := Try.checked) false ⟨#[], #[.slice none 0 0], []⟩ 8 (by kernel_rfl) (by kernel_rfl) (by kernel_rfl) (by kernel_rfl)) ?_
  intro W base args ds gs before hval0 hW hcnd _
  have hval : ∀ (j : Nat) t v, Try.f5.params[j]? = some t → args[j]? = some v → Value.okWide Try.prog W .any base t v := hval0
  have hW' := hW
  obtain ⟨p, q, hA0, hV, rfl, hfz, hnd⟩ := hW
  have hA : DataW.TrodAll enc Try.prog W 0 (fun _ => true) true Try.f5.params.toList args.toList ds p := hA0
  rw [Try.params5] at hA hval
  obtain ⟨v0, vs0, d0, ds0, p0, q0, hargs, rfl, rfl, t0, r0⟩ := trodAll_cons hA
  obtain ⟨rfl, rfl, rfl⟩ := trodAll_nil r0
  obtain rfl : args = #[v0] := by cases args; simp_all
  obtain ⟨a0, b0, k0⟩ := arg_slice Try.underlying22 (hval 0 _ v0 rfl rfl) opensBytes t0
  refine (l_FnSplices a0 v0 W b0 k0).mono fun e W' ⟨he, hx⟩ => ?_
  subst he
  refine ⟨_, rfl, post_law laid_out ?_ (by kernel_rfl) Try.underlying4 rfl ?_ hW' hx⟩
  · rw [Try.params5]
    intro t ht
    simp only [List.mem_cons, List.not_mem_nil, or_false] at ht
    rcases ht with rfl <;> exact ⟨by kernel_rfl, of_decide_eq_true (by kernel_rfl)⟩
  · rw [Try.params5]
    intro ds' h
    obtain ⟨x0, rfl⟩ := len1 (by simpa using h)
    rfl

theorem FnSplices_holds : Rows.FnSplicesSaid :=
  OpenClaim.holds_of_wide 5 Try.f5 rfl rfl rfl rfl rfl rfl rfl ⟨rfl, rfl, rfl, rfl, rfl⟩ rfl rfl rfl rfl rfl (by kernel_rfl) Try.func5 (by kernel_rfl)
    (of_decide_eq_true (by kernel_rfl)) (by unfold Func.isWrapper; first | (rw [if_pos (by decide +kernel)]; kernel_rfl) | (rw [if_neg (by decide +kernel)]; exact ⟨rfl, rfl⟩))
    (fun os started H enc _ => FnSplices_lifted os started H enc)
#print axioms FnSplices_holds

end Go.Proofs.Ytkolfiedakojoaa
