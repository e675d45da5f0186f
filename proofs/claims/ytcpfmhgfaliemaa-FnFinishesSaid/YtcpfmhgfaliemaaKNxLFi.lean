/- The walk of the law on the end of a segment: an ended segment is valid, nobody extends it, and without its last hop it is the segment that was ended. No condition. -/
import Derived.Test.YtcpfmhgfaliemaaKNxW13o
import Derived.Test.YtcpfmhgfaliemaaKNxW13t
import Derived.Test.YtcpfmhgfaliemaaKN20
import Derived.Test.YtcpfmhgfaliemaaKN23
namespace Go.Proofs.Ytcpfmhgfaliemaa
open Go.ChangeShapes Go.WideShapes Go.ChangeAt Go.RowKit Go.Deep

theorem l_atE (code : List Int) (v : Value) (i : Int) (w : World) (hr : RdS Rep.byte w v code) (hu : ∀ x ∈ code, U8 x) (h0 : 0 ≤ i) (h1 : i ≤ 1048576) (hl : code.length ≤ 1048576) :
  Calls Try.prog 19 #[v, .int .i64 i] w fun e w' => ∃ r : Int, e = .returned (.int .i64 r) ∧ 0 ≤ r ∧ r ≤ 255 ∧ Ext w w' :=
 (l_at code v i w hr hu h0 h1 hl).mono fun _ _ ⟨r, a1, a2, a3, a4⟩ => ⟨r, a1, a2, a3, a4 ▸ Ext.refl _⟩
theorem l_sameSegT (a : Seg) (va vb : Value) (w : World) (ra : RdS Hop.rep w va a.hops) (rb : RdS Hop.rep w vb a.hops) :
  Calls Try.prog 17 #[.agg #[.int .i64 a.ts, .int .i64 a.beta, va], .agg #[.int .i64 a.ts, .int .i64 a.beta, vb]] w fun e w' => e = .returned (.bool true) ∧ Ext w w' :=
 (l_sameSeg a a va vb w ra rb).mono fun _ w' ⟨h1, h2⟩ => ⟨by rw [h1]; simp, h2⟩

set_option maxRecDepth 100000 in
set_option maxHeartbeats 40000000 in
theorem l_FnFinishes (code : List Int) (cv : Value) (w : World) (hr : RdS Rep.byte w cv code) (hu : ∀ x ∈ code, U8 x) :
  Calls Try.prog 4 #[cv] w fun e w' => e = .returned (.bool true) ∧ Ext w w' := by
 obtain ⟨co, cc, rfl, _⟩ := hr.shape
 by_cases hbig : 1048576 < code.length
 ·
  have hb1 : decide (1048576 < code.length) = true := by simpa using hbig
  have HB1 := Lib.hid hb1; clear hb1
  go_enter Try.func4, Try.ntmps4
  go_wp2_with fail
  refine (l_big code _ _ hr).mono ?_
  rintro e _ ⟨rfl, rfl⟩
  rw [HB1.out]
  go_wp2_with fail
  go_ret
  exact ⟨rfl, Ext.refl _⟩
 have hb1 : decide (1048576 < code.length) = false := by simpa using hbig
 have hl : code.length ≤ 1048576 := by omega
 have HB1 := Lib.hid hb1; clear hb1 hbig
 go_enter Try.func4, Try.ntmps4
 go_wp2_with fail
 refine (l_big code _ _ hr).mono ?_
 rintro e _ ⟨rfl, rfl⟩
 rw [HB1.out]
 go_wp2_with fail
 refine (s_DrawTerminate code _ _ (hr.ext (Ext.refl _)) hu hl).mono ?_
 rintro e w1 ⟨v1, v2, va, t, p, a, r, inn, rfl, TK, hp1, hp2, hp3, hl5, rA, rL, rH, hz1⟩
 obtain ⟨o_A, c_A, rfl, _⟩ := rA.shape
 obtain ⟨o_L, c_L, rfl, _⟩ := rL.shape
 obtain ⟨o_H, c_H, rfl, _⟩ := rH.shape
 obtain ⟨x, ok, hX⟩ : ∃ (x : Seg) (ok : Bool), terminate t p a r inn = (x, ok) := ⟨_, _, rfl⟩
 have hn8 := TK.n8
 have hx1 := ext3 w1 (.cells #[.slice o_A t.ases.length c_A, .slice o_L t.links.length c_L] 41) (.cells #[.int .i64 p.most, .int .i64 p.den, .int .i64 p.clo, .int .i64 p.life] 57) (.cells #[.int .i64 a.ts, .int .i64 a.beta, .slice o_H a.hops.length c_H] 60)
 have HB1 := Lib.hid (al3 w1 (.cells #[.slice o_A t.ases.length c_A, .slice o_L t.links.length c_L] 41) (.cells #[.int .i64 p.most, .int .i64 p.den, .int .i64 p.clo, .int .i64 p.life] 57) (.cells #[.int .i64 a.ts, .int .i64 a.beta, .slice o_H a.hops.length c_H] 60))
 cases ok
 ·
  have hxa : a = x := by
   have h1 := terminate_no (t := t) (p := p) (s := a) (r := r) (inn := inn) (by rw [hX])
   rw [hX] at h1; exact h1.symm
  subst hxa
  have HX := Lib.hid hX
  clear hX
  have cf1 := blk2 HB1.out.1
  have cf2 := blk4 HB1.out.2.1
  have cf3 := blk3 HB1.out.2.2
  go_wp2_with fail
  refine (i_Terminate t _ _ p a _ r inn a _ _ (rA.ext hx1) (rL.ext hx1) (rH.ext hx1) (by omega) HX.out).mono ?_
  rintro e w2 ⟨vX, rfl, OX, hz2⟩
  have rX := OwnF.rd (hf := Hop.flen) OX
  clear OX
  obtain ⟨o_X, c_X, rfl, _⟩ := rX.shape
  have hxX : Ext w2 (w2.alloc (.cells #[.int .i64 a.ts, .int .i64 a.beta, .slice o_X a.hops.length c_X] 60)) := (Ext.refl _).alloc _
  have HBX := Lib.hid (blk_new w2 (.cells #[.int .i64 a.ts, .int .i64 a.beta, .slice o_X a.hops.length c_X] 60))
  try clear cf1
  try clear cf2
  try clear cf3
  have cf4 := blk2 (Ext.block (hz2.trans hxX) HB1.out.1)
  have cf5 := blk4 (Ext.block (hz2.trans hxX) HB1.out.2.1)
  have cf6 := blk3 (Ext.block (hz2.trans hxX) HB1.out.2.2)
  have cf7 := blk3 HBX.out
  go_wp2_with fail
  refine (s_Terminate t _ _ p a _ r inn a _ _ (rA.ext ((hx1.trans hz2).trans hxX)) (rL.ext ((hx1.trans hz2).trans hxX)) (rH.ext ((hx1.trans hz2).trans hxX)) (by omega) HX.out).mono ?_
  rintro e w3 ⟨vY, rfl, OY, hz3⟩
  have rY := OwnF.rd (hf := Hop.flen) OY
  clear OY
  obtain ⟨o_Y, c_Y, rfl, _⟩ := rY.shape
  have hxY : Ext w3 (w3.alloc (.cells #[.int .i64 a.ts, .int .i64 a.beta, .slice o_Y a.hops.length c_Y] 60)) := (Ext.refl _).alloc _
  have HBY := Lib.hid (blk_new w3 (.cells #[.int .i64 a.ts, .int .i64 a.beta, .slice o_Y a.hops.length c_Y] 60))
  try clear cf4
  try clear cf5
  try clear cf6
  try clear cf7
  have cf8 := blk2 (Ext.block (((hz2.trans hxX).trans hz3).trans hxY) HB1.out.1)
  have cf9 := blk4 (Ext.block (((hz2.trans hxX).trans hz3).trans hxY) HB1.out.2.1)
  have cf10 := blk3 (Ext.block (((hz2.trans hxX).trans hz3).trans hxY) HB1.out.2.2)
  have cf11 := blk3 (Ext.block (hz3.trans hxY) HBX.out)
  have cf12 := blk3 HBY.out
  go_wp2_with fail
  refine (l_sameSegT a _ _ _ (rX.ext ((hxX.trans hz3).trans hxY)) (rY.ext hxY)).mono ?_
  rintro e w4 ⟨rfl, hz4⟩
  try clear cf8
  try clear cf9
  try clear cf10
  try clear cf11
  try clear cf12
  have cf13 := blk2 (Ext.block ((((hz2.trans hxX).trans hz3).trans hxY).trans hz4) HB1.out.1)
  have cf14 := blk4 (Ext.block ((((hz2.trans hxX).trans hz3).trans hxY).trans hz4) HB1.out.2.1)
  have cf15 := blk3 (Ext.block ((((hz2.trans hxX).trans hz3).trans hxY).trans hz4) HB1.out.2.2)
  have cf16 := blk3 (Ext.block ((hz3.trans hxY).trans hz4) HBX.out)
  have cf17 := blk3 (Ext.block hz4 HBY.out)
  go_wp2_with fail
  refine (l_sameSegT a _ _ _ (rX.ext (((hxX.trans hz3).trans hxY).trans hz4)) (rH.ext (((((hx1.trans hz2).trans hxX).trans hz3).trans hxY).trans hz4))).mono ?_
  rintro e w5 ⟨rfl, hz5⟩
  try clear cf13
  try clear cf14
  try clear cf15
  try clear cf16
  try clear cf17
  have cf18 := blk2 (Ext.block (((((hz2.trans hxX).trans hz3).trans hxY).trans hz4).trans hz5) HB1.out.1)
  have cf19 := blk4 (Ext.block (((((hz2.trans hxX).trans hz3).trans hxY).trans hz4).trans hz5) HB1.out.2.1)
  have cf20 := blk3 (Ext.block (((((hz2.trans hxX).trans hz3).trans hxY).trans hz4).trans hz5) HB1.out.2.2)
  have cf21 := blk3 (Ext.block (((hz3.trans hxY).trans hz4).trans hz5) HBX.out)
  have cf22 := blk3 (Ext.block (hz4.trans hz5) HBY.out)
  go_wp2_with fail
  go_ret
  exact ⟨rfl, (((((((hz1.trans hx1).trans hz2).trans hxX).trans hz3).trans hxY).trans hz4).trans hz5)⟩
 ·
  have HX := Lib.hid hX
  obtain ⟨h1, h2, h3⟩ := terminate_ok (t := t) (p := p) (s := a) (r := r) (inn := inn) (by rw [hX])
  rw [hX] at h1
  obtain ⟨L1, L2⟩ := ended_law TK hp1 ⟨hp2, hp3⟩ h2 h3
  have HNO := Lib.hid (ended_no L2)
  have hus := ended_usable L1 L2
  have hbk := ended_back t p a r inn
  have hle : (ended t p a r inn).hops.length = a.hops.length + 1 := by simp [ended]
  rw [← show x = ended t p a r inn from h1] at L1 L2 HNO hus hbk hle
  have L3 : (segUsable t x x.ts == decide (x.ts ≤ leastExp x.hops)) = true := by rw [hus]; simp
  have HL1 := Lib.hid L1
  have HL2 := Lib.hid L2
  have HL3 := Lib.hid L3
  have HBK := Lib.hid hbk
  have hlx : x.hops.length ≤ 6 := by omega
  clear h1 h2 h3 hus hbk L1 L2 L3 hX hle
  have cf23 := blk2 HB1.out.1
  have cf24 := blk4 HB1.out.2.1
  have cf25 := blk3 HB1.out.2.2
  go_wp2_with fail
  refine (i_Terminate t _ _ p a _ r inn x _ _ (rA.ext hx1) (rL.ext hx1) (rH.ext hx1) (by omega) HX.out).mono ?_
  rintro e w6 ⟨vX, rfl, OX, hz6⟩
  have rX := OwnF.rd (hf := Hop.flen) OX
  clear OX
  obtain ⟨o_X, c_X, rfl, _⟩ := rX.shape
  have hxX : Ext w6 (w6.alloc (.cells #[.int .i64 x.ts, .int .i64 x.beta, .slice o_X x.hops.length c_X] 60)) := (Ext.refl _).alloc _
  have HBX := Lib.hid (blk_new w6 (.cells #[.int .i64 x.ts, .int .i64 x.beta, .slice o_X x.hops.length c_X] 60))
  try clear cf23
  try clear cf24
  try clear cf25
  have cf26 := blk2 (Ext.block (hz6.trans hxX) HB1.out.1)
  have cf27 := blk4 (Ext.block (hz6.trans hxX) HB1.out.2.1)
  have cf28 := blk3 (Ext.block (hz6.trans hxX) HB1.out.2.2)
  have cf29 := blk3 HBX.out
  go_wp2_with fail
  refine (s_Terminate t _ _ p a _ r inn x _ _ (rA.ext ((hx1.trans hz6).trans hxX)) (rL.ext ((hx1.trans hz6).trans hxX)) (rH.ext ((hx1.trans hz6).trans hxX)) (by omega) HX.out).mono ?_
  rintro e w7 ⟨vY, rfl, OY, hz7⟩
  have rY := OwnF.rd (hf := Hop.flen) OY
  clear OY
  obtain ⟨o_Y, c_Y, rfl, _⟩ := rY.shape
  have hxY : Ext w7 (w7.alloc (.cells #[.int .i64 x.ts, .int .i64 x.beta, .slice o_Y x.hops.length c_Y] 60)) := (Ext.refl _).alloc _
  have HBY := Lib.hid (blk_new w7 (.cells #[.int .i64 x.ts, .int .i64 x.beta, .slice o_Y x.hops.length c_Y] 60))
  try clear cf26
  try clear cf27
  try clear cf28
  try clear cf29
  have cf30 := blk2 (Ext.block (((hz6.trans hxX).trans hz7).trans hxY) HB1.out.1)
  have cf31 := blk4 (Ext.block (((hz6.trans hxX).trans hz7).trans hxY) HB1.out.2.1)
  have cf32 := blk3 (Ext.block (((hz6.trans hxX).trans hz7).trans hxY) HB1.out.2.2)
  have cf33 := blk3 (Ext.block (hz7.trans hxY) HBX.out)
  have cf34 := blk3 HBY.out
  go_wp2_with fail
  refine (l_sameSegT x _ _ _ (rX.ext ((hxX.trans hz7).trans hxY)) (rY.ext hxY)).mono ?_
  rintro e w8 ⟨rfl, hz8⟩
  try clear cf30
  try clear cf31
  try clear cf32
  try clear cf33
  try clear cf34
  have cf35 := blk2 (Ext.block ((((hz6.trans hxX).trans hz7).trans hxY).trans hz8) HB1.out.1)
  have cf36 := blk4 (Ext.block ((((hz6.trans hxX).trans hz7).trans hxY).trans hz8) HB1.out.2.1)
  have cf37 := blk3 (Ext.block ((((hz6.trans hxX).trans hz7).trans hxY).trans hz8) HB1.out.2.2)
  have cf38 := blk3 (Ext.block ((hz7.trans hxY).trans hz8) HBX.out)
  have cf39 := blk3 (Ext.block hz8 HBY.out)
  go_wp2_with fail
  go_loopg [12] t.ases.length (fun gk i wr => ∃ k : Nat, gk + k = t.ases.length ∧ i = .int .i64 k ∧ Ext w8 wr)
  case atStart => exact ⟨0, by omega, rfl, Ext.refl _⟩
  case round =>
   obtain ⟨k, hgk, rfl, hx⟩ := hrel
   have HGK := Lib.hid hgk
   clear hgk
   have hkl : k ≤ t.ases.length := by have h1 := HGK.out; omega
   by_cases hlt : k < t.ases.length
   ·
    try clear cf35
    try clear cf36
    try clear cf37
    try clear cf38
    try clear cf39
    have cf40 := blk2 (Ext.block (((((hz6.trans hxX).trans hz7).trans hxY).trans hz8).trans hx) HB1.out.1)
    have cf41 := blk4 (Ext.block (((((hz6.trans hxX).trans hz7).trans hxY).trans hz8).trans hx) HB1.out.2.1)
    have cf42 := blk3 (Ext.block (((((hz6.trans hxX).trans hz7).trans hxY).trans hz8).trans hx) HB1.out.2.2)
    have cf43 := blk3 (Ext.block (((hz7.trans hxY).trans hz8).trans hx) HBX.out)
    have cf44 := blk3 (Ext.block (hz8.trans hx) HBY.out)
    go_wp2_with fail
    refine planStep (.blk [0, 1, 2, 3, 4] (.one 5 (.blk [6, 7] (.one 8 .done)))) [] (by kernel_rfl) (by kernel_rfl) ?_
    try clear cf40
    try clear cf41
    try clear cf42
    try clear cf43
    try clear cf44
    have cf45 := blk2 (Ext.block ((((((hz6.trans hxX).trans hz7).trans hxY).trans hz8).trans hx).trans ((Ext.refl _).drew)) HB1.out.1)
    have cf46 := blk4 (Ext.block ((((((hz6.trans hxX).trans hz7).trans hxY).trans hz8).trans hx).trans ((Ext.refl _).drew)) HB1.out.2.1)
    have cf47 := blk3 (Ext.block ((((((hz6.trans hxX).trans hz7).trans hxY).trans hz8).trans hx).trans ((Ext.refl _).drew)) HB1.out.2.2)
    have cf48 := blk3 (Ext.block ((((hz7.trans hxY).trans hz8).trans hx).trans ((Ext.refl _).drew)) HBX.out)
    have cf49 := blk3 (Ext.block ((hz8.trans hx).trans ((Ext.refl _).drew)) HBY.out)
    refine blkStep (fun K HK => ?_)
    simp only [PK]
    go_wp2_with fail
    refine HK.out _ _ ?_
    clear HK K
    refine oneStep (fun K HK => ?_)
    simp only [PK]
    go_wp2_with fail
    refine (l_atE code _ (k : Int) _ (hr.ext ((((((((hz1.trans hx1).trans hz6).trans hxX).trans hz7).trans hxY).trans hz8).trans hx).trans ((Ext.refl _).drew))) hu (by omega) (by omega) hl).mono ?_
    rintro e w9 ⟨r9, rfl, hr0, hr1, hz9⟩
    try clear cf45
    try clear cf46
    try clear cf47
    try clear cf48
    try clear cf49
    have cf50 := blk2 (Ext.block (((((((hz6.trans hxX).trans hz7).trans hxY).trans hz8).trans hx).trans ((Ext.refl _).drew)).trans hz9) HB1.out.1)
    have cf51 := blk4 (Ext.block (((((((hz6.trans hxX).trans hz7).trans hxY).trans hz8).trans hx).trans ((Ext.refl _).drew)).trans hz9) HB1.out.2.1)
    have cf52 := blk3 (Ext.block (((((((hz6.trans hxX).trans hz7).trans hxY).trans hz8).trans hx).trans ((Ext.refl _).drew)).trans hz9) HB1.out.2.2)
    have cf53 := blk3 (Ext.block (((((hz7.trans hxY).trans hz8).trans hx).trans ((Ext.refl _).drew)).trans hz9) HBX.out)
    have cf54 := blk3 (Ext.block (((hz8.trans hx).trans ((Ext.refl _).drew)).trans hz9) HBY.out)
    go_wp2_with fail
    refine HK.out _ _ hz9 ?_
    clear HK K
    refine blkStep (fun K HK => ?_)
    simp only [PK]
    go_wp2_with fail
    refine HK.out _ _ ?_
    clear HK K
    refine oneStep (fun K HK => ?_)
    simp only [PK]
    go_wp2_with fail
    refine (i_CanExtend t _ _ x _ (k : Int) _ _ (rA.ext ((((((((hx1.trans hz6).trans hxX).trans hz7).trans hxY).trans hz8).trans hx).trans ((Ext.refl _).drew)).trans hz9)) (rL.ext ((((((((hx1.trans hz6).trans hxX).trans hz7).trans hxY).trans hz8).trans hx).trans ((Ext.refl _).drew)).trans hz9)) (rX.ext ((((((hxX.trans hz7).trans hxY).trans hz8).trans hx).trans ((Ext.refl _).drew)).trans hz9)) (by omega)).mono ?_
    rintro e w10 ⟨rfl, hz10⟩
    rw [HNO.out _ _]
    try clear cf50
    try clear cf51
    try clear cf52
    try clear cf53
    try clear cf54
    have cf55 := blk2 (Ext.block ((((((((hz6.trans hxX).trans hz7).trans hxY).trans hz8).trans hx).trans ((Ext.refl _).drew)).trans hz9).trans hz10) HB1.out.1)
    have cf56 := blk4 (Ext.block ((((((((hz6.trans hxX).trans hz7).trans hxY).trans hz8).trans hx).trans ((Ext.refl _).drew)).trans hz9).trans hz10) HB1.out.2.1)
    have cf57 := blk3 (Ext.block ((((((((hz6.trans hxX).trans hz7).trans hxY).trans hz8).trans hx).trans ((Ext.refl _).drew)).trans hz9).trans hz10) HB1.out.2.2)
    have cf58 := blk3 (Ext.block ((((((hz7.trans hxY).trans hz8).trans hx).trans ((Ext.refl _).drew)).trans hz9).trans hz10) HBX.out)
    have cf59 := blk3 (Ext.block ((((hz8.trans hx).trans ((Ext.refl _).drew)).trans hz9).trans hz10) HBY.out)
    go_wp2_with fail
    refine HK.out _ _ hz10 ?_
    clear HK K
    refine doneStep (by kernel_rfl) ?_
    go_wp2_with fail
    go_roundg (gk - 1)
    case measure => have h1 := HGK.out; omega
    case rel => exact ⟨k + 1, by have h1 := HGK.out; omega, congrArg (Value.int .i64) (by first | omega | (unfold wrap64; omega)), (((hx.trans ((Ext.refl _).drew)).trans hz9).trans hz10)⟩
   ·
    have L1 := HL1.out
    have L2 := HL2.out
    have L3 := HL3.out
    try clear cf35
    try clear cf36
    try clear cf37
    try clear cf38
    try clear cf39
    have cf60 := blk2 (Ext.block (((((hz6.trans hxX).trans hz7).trans hxY).trans hz8).trans hx) HB1.out.1)
    have cf61 := blk4 (Ext.block (((((hz6.trans hxX).trans hz7).trans hxY).trans hz8).trans hx) HB1.out.2.1)
    have cf62 := blk3 (Ext.block (((((hz6.trans hxX).trans hz7).trans hxY).trans hz8).trans hx) HB1.out.2.2)
    have cf63 := blk3 (Ext.block (((hz7.trans hxY).trans hz8).trans hx) HBX.out)
    have cf64 := blk3 (Ext.block (hz8.trans hx) HBY.out)
    go_wp2_with fail
    refine planStep (.blk [0] (.one 1 (.blk [2, 3, 4] (.one 5 (.blk [6, 7, 8, 9, 10, 11, 13, 14, 15] (.one 12 (.one 16 (.blk [17, 18, 19, 20, 21, 22, 23, 24, 25, 26, 27, 28, 30] (.one 29 (.one 31 (.blk [32, 33] .done))))))))))) [] (by kernel_rfl) (by kernel_rfl) ?_
    try clear cf60
    try clear cf61
    try clear cf62
    try clear cf63
    try clear cf64
    have cf65 := blk2 (Ext.block ((((((hz6.trans hxX).trans hz7).trans hxY).trans hz8).trans hx).trans ((Ext.refl _).drew)) HB1.out.1)
    have cf66 := blk4 (Ext.block ((((((hz6.trans hxX).trans hz7).trans hxY).trans hz8).trans hx).trans ((Ext.refl _).drew)) HB1.out.2.1)
    have cf67 := blk3 (Ext.block ((((((hz6.trans hxX).trans hz7).trans hxY).trans hz8).trans hx).trans ((Ext.refl _).drew)) HB1.out.2.2)
    have cf68 := blk3 (Ext.block ((((hz7.trans hxY).trans hz8).trans hx).trans ((Ext.refl _).drew)) HBX.out)
    have cf69 := blk3 (Ext.block ((hz8.trans hx).trans ((Ext.refl _).drew)) HBY.out)
    refine blkStep (fun K HK => ?_)
    simp only [PK]
    go_wp2_with fail
    refine HK.out _ _ ?_
    clear HK K
    refine oneStep (fun K HK => ?_)
    simp only [PK]
    go_wp2_with fail
    refine (i_IsTerminated x _ _ (rX.ext (((((hxX.trans hz7).trans hxY).trans hz8).trans hx).trans ((Ext.refl _).drew)))).mono ?_
    rintro e w11 ⟨rfl, hz11⟩
    try clear cf65
    try clear cf66
    try clear cf67
    try clear cf68
    try clear cf69
    have cf70 := blk2 (Ext.block (((((((hz6.trans hxX).trans hz7).trans hxY).trans hz8).trans hx).trans ((Ext.refl _).drew)).trans hz11) HB1.out.1)
    have cf71 := blk4 (Ext.block (((((((hz6.trans hxX).trans hz7).trans hxY).trans hz8).trans hx).trans ((Ext.refl _).drew)).trans hz11) HB1.out.2.1)
    have cf72 := blk3 (Ext.block (((((((hz6.trans hxX).trans hz7).trans hxY).trans hz8).trans hx).trans ((Ext.refl _).drew)).trans hz11) HB1.out.2.2)
    have cf73 := blk3 (Ext.block (((((hz7.trans hxY).trans hz8).trans hx).trans ((Ext.refl _).drew)).trans hz11) HBX.out)
    have cf74 := blk3 (Ext.block (((hz8.trans hx).trans ((Ext.refl _).drew)).trans hz11) HBY.out)
    go_wp2_with fail
    refine HK.out _ _ hz11 ?_
    clear HK K
    refine blkStep (fun K HK => ?_)
    simp only [PK]
    go_wp2_with fail
    refine HK.out _ _ ?_
    clear HK K
    refine oneStep (fun K HK => ?_)
    simp only [PK]
    go_wp2_with fail
    refine (i_ValidSegment t _ _ x _ _ (rA.ext ((((((((hx1.trans hz6).trans hxX).trans hz7).trans hxY).trans hz8).trans hx).trans ((Ext.refl _).drew)).trans hz11)) (rL.ext ((((((((hx1.trans hz6).trans hxX).trans hz7).trans hxY).trans hz8).trans hx).trans ((Ext.refl _).drew)).trans hz11)) (rX.ext ((((((hxX.trans hz7).trans hxY).trans hz8).trans hx).trans ((Ext.refl _).drew)).trans hz11)) (by omega)).mono ?_
    rintro e w12 ⟨rfl, hz12⟩
    try clear cf70
    try clear cf71
    try clear cf72
    try clear cf73
    try clear cf74
    have cf75 := blk2 (Ext.block ((((((((hz6.trans hxX).trans hz7).trans hxY).trans hz8).trans hx).trans ((Ext.refl _).drew)).trans hz11).trans hz12) HB1.out.1)
    have cf76 := blk4 (Ext.block ((((((((hz6.trans hxX).trans hz7).trans hxY).trans hz8).trans hx).trans ((Ext.refl _).drew)).trans hz11).trans hz12) HB1.out.2.1)
    have cf77 := blk3 (Ext.block ((((((((hz6.trans hxX).trans hz7).trans hxY).trans hz8).trans hx).trans ((Ext.refl _).drew)).trans hz11).trans hz12) HB1.out.2.2)
    have cf78 := blk3 (Ext.block ((((((hz7.trans hxY).trans hz8).trans hx).trans ((Ext.refl _).drew)).trans hz11).trans hz12) HBX.out)
    have cf79 := blk3 (Ext.block ((((hz8.trans hx).trans ((Ext.refl _).drew)).trans hz11).trans hz12) HBY.out)
    go_wp2_with fail
    refine HK.out _ _ hz12 ?_
    clear HK K
    refine blkStep (fun K HK => ?_)
    simp only [PK]
    go_wp2_with fail
    refine HK.out _ _ ?_
    clear HK K
    refine oneStep (fun K HK => ?_)
    simp only [PK]
    go_wp2_with fail
    refine (i_SegmentUsable t _ _ x _ x.ts _ (rA.ext (((((((((hx1.trans hz6).trans hxX).trans hz7).trans hxY).trans hz8).trans hx).trans ((Ext.refl _).drew)).trans hz11).trans hz12)) (rL.ext (((((((((hx1.trans hz6).trans hxX).trans hz7).trans hxY).trans hz8).trans hx).trans ((Ext.refl _).drew)).trans hz11).trans hz12)) (rX.ext (((((((hxX.trans hz7).trans hxY).trans hz8).trans hx).trans ((Ext.refl _).drew)).trans hz11).trans hz12)) (by omega)).mono ?_
    rintro e w13 ⟨rfl, hz13⟩
    try clear cf75
    try clear cf76
    try clear cf77
    try clear cf78
    try clear cf79
    have cf80 := blk2 (Ext.block (((((((((hz6.trans hxX).trans hz7).trans hxY).trans hz8).trans hx).trans ((Ext.refl _).drew)).trans hz11).trans hz12).trans hz13) HB1.out.1)
    have cf81 := blk4 (Ext.block (((((((((hz6.trans hxX).trans hz7).trans hxY).trans hz8).trans hx).trans ((Ext.refl _).drew)).trans hz11).trans hz12).trans hz13) HB1.out.2.1)
    have cf82 := blk3 (Ext.block (((((((((hz6.trans hxX).trans hz7).trans hxY).trans hz8).trans hx).trans ((Ext.refl _).drew)).trans hz11).trans hz12).trans hz13) HB1.out.2.2)
    have cf83 := blk3 (Ext.block (((((((hz7.trans hxY).trans hz8).trans hx).trans ((Ext.refl _).drew)).trans hz11).trans hz12).trans hz13) HBX.out)
    have cf84 := blk3 (Ext.block (((((hz8.trans hx).trans ((Ext.refl _).drew)).trans hz11).trans hz12).trans hz13) HBY.out)
    go_wp2_with fail
    refine HK.out _ _ hz13 ?_
    clear HK K
    refine oneStep (fun K HK => ?_)
    simp only [PK]
    go_wp2_with fail
    refine (i_SegmentExpiry x _ _ (rX.ext ((((((((hxX.trans hz7).trans hxY).trans hz8).trans hx).trans ((Ext.refl _).drew)).trans hz11).trans hz12).trans hz13))).mono ?_
    rintro e w14 ⟨rfl, hz14⟩
    try clear cf80
    try clear cf81
    try clear cf82
    try clear cf83
    try clear cf84
    have cf85 := blk2 (Ext.block ((((((((((hz6.trans hxX).trans hz7).trans hxY).trans hz8).trans hx).trans ((Ext.refl _).drew)).trans hz11).trans hz12).trans hz13).trans hz14) HB1.out.1)
    have cf86 := blk4 (Ext.block ((((((((((hz6.trans hxX).trans hz7).trans hxY).trans hz8).trans hx).trans ((Ext.refl _).drew)).trans hz11).trans hz12).trans hz13).trans hz14) HB1.out.2.1)
    have cf87 := blk3 (Ext.block ((((((((((hz6.trans hxX).trans hz7).trans hxY).trans hz8).trans hx).trans ((Ext.refl _).drew)).trans hz11).trans hz12).trans hz13).trans hz14) HB1.out.2.2)
    have cf88 := blk3 (Ext.block ((((((((hz7.trans hxY).trans hz8).trans hx).trans ((Ext.refl _).drew)).trans hz11).trans hz12).trans hz13).trans hz14) HBX.out)
    have cf89 := blk3 (Ext.block ((((((hz8.trans hx).trans ((Ext.refl _).drew)).trans hz11).trans hz12).trans hz13).trans hz14) HBY.out)
    go_wp2_with fail
    refine HK.out _ _ hz14 ?_
    clear HK K
    refine blkStep (fun K HK => ?_)
    simp only [PK]
    go_wp2_with fail
    refine HK.out _ _ ?_
    clear HK K
    refine oneStep (fun K HK => ?_)
    simp only [PK]
    go_wp2_with fail
    refine (i_Splice x a a.hops.length a.hops.length _ _ _ (rX.ext (((((((((hxX.trans hz7).trans hxY).trans hz8).trans hx).trans ((Ext.refl _).drew)).trans hz11).trans hz12).trans hz13).trans hz14)) (rH.ext (((((((((((hx1.trans hz6).trans hxX).trans hz7).trans hxY).trans hz8).trans hx).trans ((Ext.refl _).drew)).trans hz11).trans hz12).trans hz13).trans hz14)) (by omega) (by omega)).mono ?_
    rintro e w15 ⟨vz, rfl, OZ, hz15⟩
    rw [HBK.out] at OZ ⊢
    try clear cf85
    try clear cf86
    try clear cf87
    try clear cf88
    try clear cf89
    have cf90 := blk2 (Ext.block (((((((((((hz6.trans hxX).trans hz7).trans hxY).trans hz8).trans hx).trans ((Ext.refl _).drew)).trans hz11).trans hz12).trans hz13).trans hz14).trans hz15) HB1.out.1)
    have cf91 := blk4 (Ext.block (((((((((((hz6.trans hxX).trans hz7).trans hxY).trans hz8).trans hx).trans ((Ext.refl _).drew)).trans hz11).trans hz12).trans hz13).trans hz14).trans hz15) HB1.out.2.1)
    have cf92 := blk3 (Ext.block (((((((((((hz6.trans hxX).trans hz7).trans hxY).trans hz8).trans hx).trans ((Ext.refl _).drew)).trans hz11).trans hz12).trans hz13).trans hz14).trans hz15) HB1.out.2.2)
    have cf93 := blk3 (Ext.block (((((((((hz7.trans hxY).trans hz8).trans hx).trans ((Ext.refl _).drew)).trans hz11).trans hz12).trans hz13).trans hz14).trans hz15) HBX.out)
    have cf94 := blk3 (Ext.block (((((((hz8.trans hx).trans ((Ext.refl _).drew)).trans hz11).trans hz12).trans hz13).trans hz14).trans hz15) HBY.out)
    go_wp2_with fail
    refine HK.out _ _ hz15 ?_
    clear HK K
    refine oneStep (fun K HK => ?_)
    simp only [PK]
    go_wp2_with fail
    refine (l_sameSegT a _ _ _ (OwnF.rd (hf := Hop.flen) OZ) (rH.ext ((((((((((((hx1.trans hz6).trans hxX).trans hz7).trans hxY).trans hz8).trans hx).trans ((Ext.refl _).drew)).trans hz11).trans hz12).trans hz13).trans hz14).trans hz15))).mono ?_
    rintro e w16 ⟨rfl, hz16⟩
    try clear cf90
    try clear cf91
    try clear cf92
    try clear cf93
    try clear cf94
    have cf95 := blk2 (Ext.block ((((((((((((hz6.trans hxX).trans hz7).trans hxY).trans hz8).trans hx).trans ((Ext.refl _).drew)).trans hz11).trans hz12).trans hz13).trans hz14).trans hz15).trans hz16) HB1.out.1)
    have cf96 := blk4 (Ext.block ((((((((((((hz6.trans hxX).trans hz7).trans hxY).trans hz8).trans hx).trans ((Ext.refl _).drew)).trans hz11).trans hz12).trans hz13).trans hz14).trans hz15).trans hz16) HB1.out.2.1)
    have cf97 := blk3 (Ext.block ((((((((((((hz6.trans hxX).trans hz7).trans hxY).trans hz8).trans hx).trans ((Ext.refl _).drew)).trans hz11).trans hz12).trans hz13).trans hz14).trans hz15).trans hz16) HB1.out.2.2)
    have cf98 := blk3 (Ext.block ((((((((((hz7.trans hxY).trans hz8).trans hx).trans ((Ext.refl _).drew)).trans hz11).trans hz12).trans hz13).trans hz14).trans hz15).trans hz16) HBX.out)
    have cf99 := blk3 (Ext.block ((((((((hz8.trans hx).trans ((Ext.refl _).drew)).trans hz11).trans hz12).trans hz13).trans hz14).trans hz15).trans hz16) HBY.out)
    go_wp2_with fail
    refine HK.out _ _ hz16 ?_
    clear HK K
    refine blkStep (fun K HK => ?_)
    simp only [PK]
    go_wp2_with fail
    refine HK.out _ _ ?_
    clear HK K
    refine doneStep (by kernel_rfl) ?_
    go_wp2_with fail
    go_ret
    exact ⟨rfl, ((((((((((((((hz1.trans hx1).trans hz6).trans hxX).trans hz7).trans hxY).trans hz8).trans hx).trans ((Ext.refl _).drew)).trans hz11).trans hz12).trans hz13).trans hz14).trans hz15).trans hz16)⟩

end Go.Proofs.Ytcpfmhgfaliemaa
