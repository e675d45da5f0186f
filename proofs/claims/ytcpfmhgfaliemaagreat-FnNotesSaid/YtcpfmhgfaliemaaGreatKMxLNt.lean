/- The walk of the law on revocations: revoked paths come last, none is lost; what is written can be read; no list grows beyond its most. No condition. -/
import Derived.Test.YtcpfmhgfaliemaaGreatKMxW31e
import Derived.Test.YtcpfmhgfaliemaaGreatKMxPlainNt
import Derived.Test.YtcpfmhgfaliemaaGreatKMxW40v
import Derived.Test.YtcpfmhgfaliemaaGreatKM18
import Derived.Test.YtcpfmhgfaliemaaGreatKM25
namespace Go.Proofs.YtcpfmhgfaliemaaGreat
open Go.ChangeShapes Go.WideShapes Go.ChangeAt Go.RowKit Go.Deep

theorem pths_small {L : List Pth} (h : ∀ x ∈ L, PBd 3 x.parts) : pthsN L ≤ 22 * L.length ∧ ∀ x ∈ L, x.size ≤ 21 := by
 have hs : ∀ x ∈ L, x.size ≤ 21 := fun x hx => by
  obtain ⟨h1, h2⟩ := h x hx
  have h3 := hopsN_len x.parts 6 h2
  unfold Pth.size; omega
 refine ⟨?_, hs⟩
 have h2 : ∀ l : List Pth, (∀ x ∈ l, x.size ≤ 21) → pszN l ≤ 21 * l.length := by
  intro l hl
  induction l with
  | nil => simp [pszN]
  | cons y l ih =>
   have h3 := hl y (by simp)
   have h4 := ih (fun x hx => hl x (by simp [hx]))
   unfold pszN at h4 ⊢
   simp only [List.map_cons, List.sum_cons, List.length_cons]; omega
 have h3 := h2 L hs
 unfold pthsN; omega

set_option maxRecDepth 100000 in
set_option maxHeartbeats 400000 in
theorem l_sameNotes (a : List Revc) (va : Value) (b : List Revc) (vb : Value) (w : World) (ha : RdS Revc.rep w va a) (hb : RdS Revc.rep w vb b) :
  Calls Tryz.prog 19 #[va, vb] w fun e w' => e = .returned (.bool (decide (a = b))) ∧ Ext w w' := by
 obtain ⟨oa, ca, rfl, hsa⟩ := ha.shape
 obtain ⟨ob, cb, rfl, hsb⟩ := hb.shape
 by_cases hne : a.length = b.length
 ·
  have Hne := Lib.hid hne
  have t1 : ((a.length : Int) != (b.length : Int)) = false := by simp [hne]
  clear hne
  go_enter Tryz.func19, Tryz.ntmps19
  go_wp2
  go_loopw [5] (fun i wr => ∃ (k : Nat), k ≤ a.length ∧ i = .int .i64 k ∧ a.take k = b.take k ∧ Ext w wr) (fun i _ => a.length - (intOf i).toNat)
  case atStart => exact ⟨0, Nat.zero_le _, rfl, rfl, Ext.refl _⟩
  case round =>
   obtain ⟨k, hk, rfl, htk, hx⟩ := hrel
   have Htk := Lib.hid htk; clear htk
   by_cases hlt : k < a.length
   ·
    have hlb : k < b.length := by rw [← Hne.out]; exact hlt
    obtain ⟨b1, off1, rfl, hc1⟩ := Revc.at (ha.ext hx) k hlt
    obtain ⟨b2, off2, rfl, hc2⟩ := Revc.at (hb.ext hx) k hlb
    go_wp2
    go_still_tail 8, (by kernel_rfl)
    go_wp2_with fail
    all_goals first
     | (go_ret; exact ⟨ret_bool (Eq.symm (decide_eq_false (by rintro rfl; contradiction))), hx.drew⟩)
     | exact ⟨⟨k + 1, by omega, by go_num, take_snoc2 Htk.out hlt hlb (Revc.ext' (by assumption) (by assumption) (by assumption)), hx.drew⟩, by simp [intOf]; omega⟩
   ·
    have hab : decide (a = b) = true := by
     have := Htk.out
     rw [List.take_of_length_le (by omega), List.take_of_length_le (by rw [← Hne.out]; omega)] at this
     simp [this]
    have Hab := Lib.hid hab; clear hab
    go_wp2
    go_ret
    exact ⟨ret_bool Hab.out.symm, hx⟩
 ·
  have t1 : ((a.length : Int) != (b.length : Int)) = true := by simp [bne_iff_ne]; omega
  have hab : decide (a = b) = false := by
   rw [decide_eq_false_iff_not]; rintro rfl; exact hne rfl
  have Hab := Lib.hid hab; clear hab
  clear hne
  go_enter Tryz.func19, Tryz.ntmps19
  go_wp2
  go_ret
  exact ⟨ret_bool Hab.out.symm, Ext.refl _⟩

theorem l_sameNotesT (a : List Revc) (va vb : Value) (w : World) (ra : RdS Revc.rep w va a) (rb : RdS Revc.rep w vb a) :
  Calls Tryz.prog 19 #[va, vb] w fun e w' => e = .returned (.bool true) ∧ Ext w w' :=
 (l_sameNotes a va a vb w ra rb).mono fun _ _ ⟨h1, h2⟩ => ⟨by rw [h1]; simp, h2⟩
theorem l_sameBT (a : List Int) (va vb : Value) (w : World) (ra : RdS Rep.byte w va a) (rb : RdS Rep.byte w vb a) :
  Calls Tryz.prog 26 #[va, vb] w fun e w' => e = .returned (.bool true) ∧ Ext w w' :=
 (l_same a va a vb w ra rb).mono fun _ _ ⟨h1, h2⟩ => ⟨by rw [h1]; simp, h2⟩
theorem l_samePathU (x : Pth) (va vb : Value) (w : World) (ra : RdS Part.rep w va x.parts) (rb : RdS Part.rep w vb x.parts) :
  Calls Tryz.prog 92 #[.agg #[va], .agg #[vb]] w fun e w' => e = .returned (.bool true) ∧ Ext w w' :=
 (l_samePathF x x va vb w ra rb).mono fun _ _ ⟨h1, h2⟩ => ⟨by rw [h1]; simp, h2⟩

set_option maxRecDepth 100000 in
set_option maxHeartbeats 4000000 in
theorem l_samePaths (l : List Pth) (va vb : Value) (w : World) (ra : RdS Pth.rep w va l) (rb : RdS Pth.rep w vb l) :
  Calls Tryz.prog 17 #[va, vb] w fun e w' => e = .returned (.bool true) ∧ Ext w w' := by
 obtain ⟨oa, ca, rfl, _⟩ := ra.shape
 obtain ⟨ob, cb, rfl, _⟩ := rb.shape
 have hne : ((l.length : Int) != (l.length : Int)) = false := by simp
 go_enter Tryz.func17, Tryz.ntmps17
 go_wp2_with fail
 go_loopg [5] l.length (fun gk i wr => ∃ k : Nat, gk + k = l.length ∧ i = .int .i64 k ∧ Ext w wr)
 case atStart => exact ⟨0, by omega, rfl, Ext.refl _⟩
 case round =>
  obtain ⟨k, hgk, rfl, hx⟩ := hrel
  have HGK := Lib.hid hgk
  clear hgk
  have hkl : k ≤ l.length := by have h1 := HGK.out; omega
  by_cases hlt : k < l.length
  ·
   have hlt2 : (k : Int) < (l.length : Int) := by omega
   obtain ⟨b1, off1, v1, c1, hb1, hc1, hr1⟩ := Pth.at (ra.ext hx) k hlt
   obtain ⟨b2, off2, v2, c2, hb2, hc2, hr2⟩ := Pth.at (rb.ext hx) k hlt
   cases hb1
   cases hb2
   obtain ⟨x, hx9⟩ : ∃ x, x = l[k] := ⟨_, rfl⟩
   rw [← hx9] at hc1 hc2 hr1 hr2
   clear hx9
   go_wp2_with fail
   refine planStep (.blk [0, 1, 2, 3, 4, 5, 6, 7] (.one 8 (.blk [9] .done))) [] (by kernel_rfl) (by kernel_rfl) ?_
   have cf1 := Ext.cell ((Ext.refl _).drew) hc1
   have cf2 := Ext.cell ((Ext.refl _).drew) hc2
   refine blkStep (fun K HK => ?_)
   simp only [PK]
   go_wp2_with fail
   refine HK.out _ _ ?_
   clear HK K
   refine oneStep (fun K HK => ?_)
   simp only [PK]
   go_wp2_with fail
   refine (l_samePathU x _ _ _ (hr1.ext ((Ext.refl _).drew)) (hr2.ext ((Ext.refl _).drew))).mono ?_
   rintro e w1 ⟨rfl, hz1⟩
   try clear cf1
   try clear cf2
   have cf3 := Ext.cell (((Ext.refl _).drew).trans hz1) hc1
   have cf4 := Ext.cell (((Ext.refl _).drew).trans hz1) hc2
   go_wp2_with fail
   refine HK.out _ _ hz1 ?_
   clear HK K
   refine blkStep (fun K HK => ?_)
   simp only [PK]
   go_wp2_with fail
   refine HK.out _ _ ?_
   clear HK K
   refine doneStep (by kernel_rfl) ?_
   go_wp2_with fail
   go_roundg (gk - 1)
   case measure => have h1 := HGK.out; omega
   case rel => exact ⟨k + 1, by have h1 := HGK.out; omega, congrArg (Value.int .i64) (by first | omega | (unfold wrap64; omega)), ((hx.trans ((Ext.refl _).drew)).trans hz1)⟩
  ·
   go_wp2_with fail
   go_ret
   exact ⟨rfl, hx⟩

set_option maxRecDepth 100000 in
set_option maxHeartbeats 80000000 in
theorem l_FnNotes (code : List Int) (cv : Value) (w : World) (hr : RdS Rep.byte w cv code) (hu : ∀ x ∈ code, U8 x) :
  Calls Tryz.prog 3 #[cv] w fun e w' => e = .returned (.bool true) ∧ Ext w w' := by
 obtain ⟨co, cc, rfl, _⟩ := hr.shape
 by_cases hbig : 1048576 < code.length
 ·
  have hb1 : decide (1048576 < code.length) = true := by simpa using hbig
  have HB1 := Lib.hid hb1; clear hb1
  go_enter Tryz.func3, Tryz.ntmps3
  go_wp2_with fail
  refine (l_big code _ _ hr).mono ?_
  rintro e _ ⟨rfl, rfl⟩
  rw [HB1.out]
  go_wp2_with fail
  go_ret
  exact ⟨rfl, Ext.refl _⟩
 have hb1 : decide (1048576 < code.length) = false := by simpa using hbig
 have hl : code.length ≤ 1048576 := by omega
 have HB1 := Lib.hid hb1; clear hb1 hbig
 go_enter Tryz.func3, Tryz.ntmps3
 go_wp2_with fail
 refine (l_big code _ _ hr).mono ?_
 rintro e _ ⟨rfl, rfl⟩
 rw [HB1.out]
 go_wp2_with fail
 refine (s_DrawPreferUnrevoked code _ _ (hr.ext (Ext.refl _)) hu hl).mono ?_
 rintro e w1 ⟨vl, vp, l, P, rfl, hl16, hP8, hPb, rl, rP, hz1⟩
 obtain ⟨o_l, c_l, rfl, _⟩ := rl.shape
 obtain ⟨o_P, c_P, rfl, _⟩ := rP.shape
 obtain ⟨hPs, hPz⟩ := pths_small hPb
 clear hPb
 go_wp2_with fail
 refine (i_PreferUnrevoked l _ P _ 45 _ (rl.ext (Ext.refl _)) (rP.ext (Ext.refl _)) (by omega) (by omega)).mono ?_
 rintro e w2 ⟨vS, rfl, OS, hz2⟩
 obtain ⟨S, hS⟩ : ∃ S, S = prefer l P 45 := ⟨_, rfl⟩
 rw [← hS] at OS
 have HS := Lib.hid hS
 have hSl : S.length = P.length := by rw [hS]; exact prefer_count _ _ _
 have hSz : ∀ y ∈ S, y.size ≤ 21 := fun y hy => hPz y (prefer_mem (by rw [← hS]; exact hy))
 have HSL := Lib.hid hSl
 clear hS hSl
 have rS := Pth.ord OS
 clear OS
 obtain ⟨o_S, c_S, rfl, _⟩ := rS.shape
 go_wp2_with fail
 refine (s_DrawAddRevocation code _ _ (hr.ext (hz1.trans hz2)) hu hl).mono ?_
 rintro e w3 ⟨vm, m, x, rfl, hm16, rm, hz3⟩
 obtain ⟨o_m, c_m, rfl, _⟩ := rm.shape
 have hx1 : Ext w3 (w3.alloc (.cells #[.int .i64 x.asn, .int .i64 x.iface, .int .i64 x.till] 30)) := (Ext.refl _).alloc _
 have HB1 := Lib.hid (blk_new w3 (.cells #[.int .i64 x.asn, .int .i64 x.iface, .int .i64 x.till] 30))
 have cf1 := blk3 HB1.out
 go_wp2_with fail
 refine (s_DrawRevoked code _ _ (hr.ext (((hz1.trans hz2).trans hz3).trans hx1)) hu hl).mono ?_
 rintro e w4 ⟨vn, vq, n, q, wn, rfl, hn16, hq4, hq5, rn, rq, hz4⟩
 obtain ⟨o_n, c_n, rfl, _⟩ := rn.shape
 obtain ⟨o_q, c_q, rfl, _⟩ := rq.shape
 have hqz := pth_size hq4 hq5
 have hx2 : Ext w4 (w4.alloc (.cells #[.slice o_q q.parts.length c_q] 35)) := (Ext.refl _).alloc _
 have HB2 := Lib.hid (blk_new w4 (.cells #[.slice o_q q.parts.length c_q] 35))
 try clear cf1
 have cf2 := blk3 (Ext.block (hz4.trans hx2) HB1.out)
 have cf3 := blk1 HB2.out
 go_wp2_with fail
 refine (s_DrawAffects code _ _ (hr.ext (((((hz1.trans hz2).trans hz3).trans hx1).trans hz4).trans hx2)) hu hl).mono ?_
 rintro e w5 ⟨vh, h, y, rfl, hh4, hh5, rh, hz5⟩
 obtain ⟨o_h, c_h, rfl, _⟩ := rh.shape
 have hhz := pth_size hh4 hh5
 have hx3 := ext2 w5 (.cells #[.slice o_h h.parts.length c_h] 35) (.cells #[.int .i64 y.asn, .int .i64 y.iface, .int .i64 y.till] 30)
 have HB3 := Lib.hid (al2 w5 (.cells #[.slice o_h h.parts.length c_h] 35) (.cells #[.int .i64 y.asn, .int .i64 y.iface, .int .i64 y.till] 30))
 try clear cf2
 try clear cf3
 have cf4 := blk3 (Ext.block (((hz4.trans hx2).trans hz5).trans hx3) HB1.out)
 have cf5 := blk1 (Ext.block (hz5.trans hx3) HB2.out)
 have cf6 := blk1 HB3.out.1
 have cf7 := blk3 HB3.out.2
 go_wp2_with fail
 refine (s_DrawEncodeRevocation code _ _ (hr.ext (((((((hz1.trans hz2).trans hz3).trans hx1).trans hz4).trans hx2).trans hz5).trans hx3)) hu hl).mono ?_
 rintro e w6 ⟨o, rfl, hz6⟩
 have hx4 : Ext w6 (w6.alloc (.cells #[.int .i64 o.asn, .int .i64 o.iface, .int .i64 o.till] 30)) := (Ext.refl _).alloc _
 have HB4 := Lib.hid (blk_new w6 (.cells #[.int .i64 o.asn, .int .i64 o.iface, .int .i64 o.till] 30))
 try clear cf4
 try clear cf5
 try clear cf6
 try clear cf7
 have cf8 := blk3 (Ext.block (((((hz4.trans hx2).trans hz5).trans hx3).trans hz6).trans hx4) HB1.out)
 have cf9 := blk1 (Ext.block (((hz5.trans hx3).trans hz6).trans hx4) HB2.out)
 have cf10 := blk1 (Ext.block (hz6.trans hx4) HB3.out.1)
 have cf11 := blk3 (Ext.block (hz6.trans hx4) HB3.out.2)
 have cf12 := blk3 HB4.out
 go_wp2_with fail
 refine (s_DrawDecodeRevocation code _ _ (hr.ext (((((((((hz1.trans hz2).trans hz3).trans hx1).trans hz4).trans hx2).trans hz5).trans hx3).trans hz6).trans hx4)) hu hl).mono ?_
 rintro e w7 ⟨vb, b, rfl, hbl, hbu, rb, hz7⟩
 obtain ⟨o_b, c_b, rfl, _⟩ := rb.shape
 obtain ⟨z, ok, hdz⟩ : ∃ (z : Revc) (ok : Bool), decRev b = (z, ok) := ⟨_, _, rfl⟩
 have HDZ := Lib.hid hdz
 clear hdz
 try clear cf8
 try clear cf9
 try clear cf10
 try clear cf11
 try clear cf12
 have cf13 := blk3 (Ext.block ((((((hz4.trans hx2).trans hz5).trans hx3).trans hz6).trans hx4).trans hz7) HB1.out)
 have cf14 := blk1 (Ext.block ((((hz5.trans hx3).trans hz6).trans hx4).trans hz7) HB2.out)
 have cf15 := blk1 (Ext.block ((hz6.trans hx4).trans hz7) HB3.out.1)
 have cf16 := blk3 (Ext.block ((hz6.trans hx4).trans hz7) HB3.out.2)
 have cf17 := blk3 (Ext.block hz7 HB4.out)
 go_wp2_with fail
 refine (i_DecodeRevocation b _ _ (rb.ext (Ext.refl _)) hbu (by omega)).mono ?_
 rintro e w8 ⟨rfl, hz8⟩
 rw [HDZ.out]
 have hx5i : Ext w8 (w8.alloc (.cells #[.int .i64 z.asn, .int .i64 z.iface, .int .i64 z.till] 30)) := (Ext.refl _).alloc _
 have HB5i := Lib.hid (blk_new w8 (.cells #[.int .i64 z.asn, .int .i64 z.iface, .int .i64 z.till] 30))
 try clear cf13
 try clear cf14
 try clear cf15
 try clear cf16
 try clear cf17
 have cf18 := blk3 (Ext.block ((((((((hz4.trans hx2).trans hz5).trans hx3).trans hz6).trans hx4).trans hz7).trans hz8).trans hx5i) HB1.out)
 have cf19 := blk1 (Ext.block ((((((hz5.trans hx3).trans hz6).trans hx4).trans hz7).trans hz8).trans hx5i) HB2.out)
 have cf20 := blk1 (Ext.block ((((hz6.trans hx4).trans hz7).trans hz8).trans hx5i) HB3.out.1)
 have cf21 := blk3 (Ext.block ((((hz6.trans hx4).trans hz7).trans hz8).trans hx5i) HB3.out.2)
 have cf22 := blk3 (Ext.block ((hz7.trans hz8).trans hx5i) HB4.out)
 have cf23 := blk3 HB5i.out
 go_wp2_with fail
 refine (s_DecodeRevocation b _ _ (rb.ext (hz8.trans hx5i)) hbu (by omega)).mono ?_
 rintro e w9 ⟨rfl, hz9⟩
 rw [HDZ.out]
 have hx5s : Ext w9 (w9.alloc (.cells #[.int .i64 z.asn, .int .i64 z.iface, .int .i64 z.till] 30)) := (Ext.refl _).alloc _
 have HB5s := Lib.hid (blk_new w9 (.cells #[.int .i64 z.asn, .int .i64 z.iface, .int .i64 z.till] 30))
 have hne1 : (revoked n q wn != revoked n q wn) = false := by simp
 have hne2 : (affects h y != affects h y) = false := by simp
 have hne3 : (ok != ok) = false := by simp
 have hne4 : (validRev o != validRev o) = false := by simp
 have hne5 : (z.asn != z.asn) = false := by simp
 have hne6 : (z.iface != z.iface) = false := by simp
 have hne7 : (z.till != z.till) = false := by simp
 try clear cf18
 try clear cf19
 try clear cf20
 try clear cf21
 try clear cf22
 try clear cf23
 have cf24 := blk3 (Ext.block ((((((((((hz4.trans hx2).trans hz5).trans hx3).trans hz6).trans hx4).trans hz7).trans hz8).trans hx5i).trans hz9).trans hx5s) HB1.out)
 have cf25 := blk1 (Ext.block ((((((((hz5.trans hx3).trans hz6).trans hx4).trans hz7).trans hz8).trans hx5i).trans hz9).trans hx5s) HB2.out)
 have cf26 := blk1 (Ext.block ((((((hz6.trans hx4).trans hz7).trans hz8).trans hx5i).trans hz9).trans hx5s) HB3.out.1)
 have cf27 := blk3 (Ext.block ((((((hz6.trans hx4).trans hz7).trans hz8).trans hx5i).trans hz9).trans hx5s) HB3.out.2)
 have cf28 := blk3 (Ext.block ((((hz7.trans hz8).trans hx5i).trans hz9).trans hx5s) HB4.out)
 have cf29 := blk3 (Ext.block (hz9.trans hx5s) HB5i.out)
 have cf30 := blk3 HB5s.out
 have HC1_1 := Lib.hid (Ext.block ((((((((((hz4.trans hx2).trans hz5).trans hx3).trans hz6).trans hx4).trans hz7).trans hz8).trans hx5i).trans hz9).trans hx5s) HB1.out)
 have HC1_2 := Lib.hid (Ext.block ((((((((hz5.trans hx3).trans hz6).trans hx4).trans hz7).trans hz8).trans hx5i).trans hz9).trans hx5s) HB2.out)
 have HC1_3 := Lib.hid (Ext.block ((((((hz6.trans hx4).trans hz7).trans hz8).trans hx5i).trans hz9).trans hx5s) HB3.out.1)
 have HC1_4 := Lib.hid (Ext.block ((((((hz6.trans hx4).trans hz7).trans hz8).trans hx5i).trans hz9).trans hx5s) HB3.out.2)
 have HC1_5 := Lib.hid (Ext.block ((((hz7.trans hz8).trans hx5i).trans hz9).trans hx5s) HB4.out)
 have HC1_6 := Lib.hid (Ext.block (hz9.trans hx5s) HB5i.out)
 replace rl := rl.ext (((((((((((((hz2.trans hz3).trans hx1).trans hz4).trans hx2).trans hz5).trans hx3).trans hz6).trans hx4).trans hz7).trans hz8).trans hx5i).trans hz9).trans hx5s)
 replace rP := rP.ext (((((((((((((hz2.trans hz3).trans hx1).trans hz4).trans hx2).trans hz5).trans hx3).trans hz6).trans hx4).trans hz7).trans hz8).trans hx5i).trans hz9).trans hx5s)
 replace rS := rS.ext ((((((((((((hz3.trans hx1).trans hz4).trans hx2).trans hz5).trans hx3).trans hz6).trans hx4).trans hz7).trans hz8).trans hx5i).trans hz9).trans hx5s)
 replace rm := rm.ext (((((((((((hx1.trans hz4).trans hx2).trans hz5).trans hx3).trans hz6).trans hx4).trans hz7).trans hz8).trans hx5i).trans hz9).trans hx5s)
 replace rn := rn.ext (((((((((hx2.trans hz5).trans hx3).trans hz6).trans hx4).trans hz7).trans hz8).trans hx5i).trans hz9).trans hx5s)
 replace rq := rq.ext (((((((((hx2.trans hz5).trans hx3).trans hz6).trans hx4).trans hz7).trans hz8).trans hx5i).trans hz9).trans hx5s)
 replace rh := rh.ext (((((((hx3.trans hz6).trans hx4).trans hz7).trans hz8).trans hx5i).trans hz9).trans hx5s)
 replace rb := rb.ext (((hz8.trans hx5i).trans hz9).trans hx5s)
 have hq1 := ((((((((((((((hz1.trans hz2).trans hz3).trans hx1).trans hz4).trans hx2).trans hz5).trans hx3).trans hz6).trans hx4).trans hz7).trans hz8).trans hx5i).trans hz9).trans hx5s)
 go_wp2_with fail
 simp only [List.append_eq, List.cons_append, List.nil_append]
 refine planStep (.blk [0, 1, 2, 3] (.one 4 (.one 5 (.blk [6, 7, 8, 9, 11, 12] (.one 10 (.one 13 (.one 14 (.blk [15, 16, 17, 18, 19, 20, 22, 23, 24] (.one 21 (.one 25 (.blk [26, 27, 28, 29, 30, 32, 33] (.one 31 (.one 34 (.blk [35, 36, 37, 38, 40] (.one 39 (.one 41 (.one 42 (.blk [43, 44, 45, 46, 47, 48, 49, 50, 51, 52, 53, 54, 55, 56, 58] (.one 57 (.one 59 (.blk [60, 61, 62, 63, 64, 66, 67] (.one 65 (.one 68 (.one 69 (.blk [70, 71] .done))))))))))))))))))))))))) [] (by kernel_rfl) (by as_aux_lemma => kernel_rfl) ?_
 try clear cf24
 try clear cf25
 try clear cf26
 try clear cf27
 try clear cf28
 try clear cf29
 try clear cf30
 have cf31 := blk3 (Ext.block ((Ext.refl _).drew) HC1_1.out)
 have cf32 := blk1 (Ext.block ((Ext.refl _).drew) HC1_2.out)
 have cf33 := blk1 (Ext.block ((Ext.refl _).drew) HC1_3.out)
 have cf34 := blk3 (Ext.block ((Ext.refl _).drew) HC1_4.out)
 have cf35 := blk3 (Ext.block ((Ext.refl _).drew) HC1_5.out)
 have cf36 := blk3 (Ext.block ((Ext.refl _).drew) HC1_6.out)
 have cf37 := blk3 (Ext.block ((Ext.refl _).drew) HB5s.out)
 refine blkStep (fun K HK => ?_)
 simp only [PK]
 go_wp2_with fail
 refine HK.out _ _ ?_
 clear HK K
 refine oneStep (fun K HK => ?_)
 simp only [PK]
 go_wp2_with fail
 refine (s_PreferUnrevoked l _ P _ 45 _ (rl.ext ((Ext.refl _).drew)) (rP.ext ((Ext.refl _).drew)) (by omega) (by omega)).mono ?_
 rintro e w10 ⟨vS2, rfl, OS2, hz10⟩
 rw [← HS.out] at OS2
 have rS2 := Pth.ord OS2
 clear OS2
 obtain ⟨o_S2, c_S2, rfl, _⟩ := rS2.shape
 try clear cf31
 try clear cf32
 try clear cf33
 try clear cf34
 try clear cf35
 try clear cf36
 try clear cf37
 have cf38 := blk3 (Ext.block (((Ext.refl _).drew).trans hz10) HC1_1.out)
 have cf39 := blk1 (Ext.block (((Ext.refl _).drew).trans hz10) HC1_2.out)
 have cf40 := blk1 (Ext.block (((Ext.refl _).drew).trans hz10) HC1_3.out)
 have cf41 := blk3 (Ext.block (((Ext.refl _).drew).trans hz10) HC1_4.out)
 have cf42 := blk3 (Ext.block (((Ext.refl _).drew).trans hz10) HC1_5.out)
 have cf43 := blk3 (Ext.block (((Ext.refl _).drew).trans hz10) HC1_6.out)
 have cf44 := blk3 (Ext.block (((Ext.refl _).drew).trans hz10) HB5s.out)
 go_wp2_with fail
 refine HK.out _ _ hz10 ?_
 clear HK K
 refine oneStep (fun K HK => ?_)
 simp only [PK]
 go_wp2_with fail
 refine (l_samePaths S _ _ _ (rS.ext (((Ext.refl _).drew).trans hz10)) (rS2.ext (Ext.refl _))).mono ?_
 rintro e w11 ⟨rfl, hz11⟩
 try clear cf38
 try clear cf39
 try clear cf40
 try clear cf41
 try clear cf42
 try clear cf43
 try clear cf44
 have cf45 := blk3 (Ext.block ((((Ext.refl _).drew).trans hz10).trans hz11) HC1_1.out)
 have cf46 := blk1 (Ext.block ((((Ext.refl _).drew).trans hz10).trans hz11) HC1_2.out)
 have cf47 := blk1 (Ext.block ((((Ext.refl _).drew).trans hz10).trans hz11) HC1_3.out)
 have cf48 := blk3 (Ext.block ((((Ext.refl _).drew).trans hz10).trans hz11) HC1_4.out)
 have cf49 := blk3 (Ext.block ((((Ext.refl _).drew).trans hz10).trans hz11) HC1_5.out)
 have cf50 := blk3 (Ext.block ((((Ext.refl _).drew).trans hz10).trans hz11) HC1_6.out)
 have cf51 := blk3 (Ext.block ((((Ext.refl _).drew).trans hz10).trans hz11) HB5s.out)
 go_wp2_with fail
 refine HK.out _ _ hz11 ?_
 clear HK K
 have HC2_1 := Lib.hid (Ext.block ((((Ext.refl _).drew).trans hz10).trans hz11) HC1_1.out)
 have HC2_2 := Lib.hid (Ext.block ((((Ext.refl _).drew).trans hz10).trans hz11) HC1_2.out)
 have HC2_3 := Lib.hid (Ext.block ((((Ext.refl _).drew).trans hz10).trans hz11) HC1_3.out)
 have HC2_4 := Lib.hid (Ext.block ((((Ext.refl _).drew).trans hz10).trans hz11) HC1_4.out)
 have HC2_5 := Lib.hid (Ext.block ((((Ext.refl _).drew).trans hz10).trans hz11) HC1_5.out)
 have HC2_6 := Lib.hid (Ext.block ((((Ext.refl _).drew).trans hz10).trans hz11) HC1_6.out)
 have HC2_7 := Lib.hid (Ext.block ((((Ext.refl _).drew).trans hz10).trans hz11) HB5s.out)
 replace rl := rl.ext ((((Ext.refl _).drew).trans hz10).trans hz11)
 replace rP := rP.ext ((((Ext.refl _).drew).trans hz10).trans hz11)
 replace rS := rS.ext ((((Ext.refl _).drew).trans hz10).trans hz11)
 replace rm := rm.ext ((((Ext.refl _).drew).trans hz10).trans hz11)
 replace rn := rn.ext ((((Ext.refl _).drew).trans hz10).trans hz11)
 replace rq := rq.ext ((((Ext.refl _).drew).trans hz10).trans hz11)
 replace rh := rh.ext ((((Ext.refl _).drew).trans hz10).trans hz11)
 replace rb := rb.ext ((((Ext.refl _).drew).trans hz10).trans hz11)
 have hq2 := (((hq1.trans ((Ext.refl _).drew)).trans hz10).trans hz11)
 as_aux_lemma =>
  refine blkStep (fun K HK => ?_)
  simp only [PK]
  go_wp2_with fail
  refine HK.out _ _ ?_
  clear HK K
  refine oneStep (fun K HK => ?_)
  simp only [PK]
  go_wp2_with fail
  refine (i_AddRevocation m _ x _ (rm.ext (Ext.refl _)) (by omega)).mono ?_
  rintro e w12 ⟨vA1, rfl, OA1, hz12⟩
  have rA1 := OwnF.rd (hf := Revc.flen) OA1
  clear OA1
  obtain ⟨o_A1, c_A1, rfl, _⟩ := rA1.shape
  try clear cf45
  try clear cf46
  try clear cf47
  try clear cf48
  try clear cf49
  try clear cf50
  try clear cf51
  have cf52 := blk3 (Ext.block hz12 HC2_1.out)
  have cf53 := blk1 (Ext.block hz12 HC2_2.out)
  have cf54 := blk1 (Ext.block hz12 HC2_3.out)
  have cf55 := blk3 (Ext.block hz12 HC2_4.out)
  have cf56 := blk3 (Ext.block hz12 HC2_5.out)
  have cf57 := blk3 (Ext.block hz12 HC2_6.out)
  have cf58 := blk3 (Ext.block hz12 HC2_7.out)
  go_wp2_with fail
  refine HK.out _ _ hz12 ?_
  clear HK K
  refine oneStep (fun K HK => ?_)
  simp only [PK]
  go_wp2_with fail
  refine (s_AddRevocationK m _ x _ (rm.ext hz12) (by omega)).mono ?_
  rintro e w13 ⟨vA2, rfl, OA2, hz13⟩
  have rA2 := Own.rd _ OA2
  clear OA2
  obtain ⟨o_A2, c_A2, rfl, _⟩ := RdS.shape rA2
  try clear cf52
  try clear cf53
  try clear cf54
  try clear cf55
  try clear cf56
  try clear cf57
  try clear cf58
  have cf59 := blk3 (Ext.block (hz12.trans hz13) HC2_1.out)
  have cf60 := blk1 (Ext.block (hz12.trans hz13) HC2_2.out)
  have cf61 := blk1 (Ext.block (hz12.trans hz13) HC2_3.out)
  have cf62 := blk3 (Ext.block (hz12.trans hz13) HC2_4.out)
  have cf63 := blk3 (Ext.block (hz12.trans hz13) HC2_5.out)
  have cf64 := blk3 (Ext.block (hz12.trans hz13) HC2_6.out)
  have cf65 := blk3 (Ext.block (hz12.trans hz13) HC2_7.out)
  go_wp2_with fail
  refine HK.out _ _ hz13 ?_
  clear HK K
  refine oneStep (fun K HK => ?_)
  simp only [PK]
  go_wp2_with fail
  refine (l_sameNotesT (addRev m x) _ _ _ (rA1.ext hz13) (rA2.ext (Ext.refl _))).mono ?_
  rintro e w14 ⟨rfl, hz14⟩
  try clear cf59
  try clear cf60
  try clear cf61
  try clear cf62
  try clear cf63
  try clear cf64
  try clear cf65
  have cf66 := blk3 (Ext.block ((hz12.trans hz13).trans hz14) HC2_1.out)
  have cf67 := blk1 (Ext.block ((hz12.trans hz13).trans hz14) HC2_2.out)
  have cf68 := blk1 (Ext.block ((hz12.trans hz13).trans hz14) HC2_3.out)
  have cf69 := blk3 (Ext.block ((hz12.trans hz13).trans hz14) HC2_4.out)
  have cf70 := blk3 (Ext.block ((hz12.trans hz13).trans hz14) HC2_5.out)
  have cf71 := blk3 (Ext.block ((hz12.trans hz13).trans hz14) HC2_6.out)
  have cf72 := blk3 (Ext.block ((hz12.trans hz13).trans hz14) HC2_7.out)
  go_wp2_with fail
  refine HK.out _ _ hz14 ?_
  clear HK K
  have HC3_1 := Lib.hid (Ext.block ((hz12.trans hz13).trans hz14) HC2_1.out)
  have HC3_2 := Lib.hid (Ext.block ((hz12.trans hz13).trans hz14) HC2_2.out)
  have HC3_3 := Lib.hid (Ext.block ((hz12.trans hz13).trans hz14) HC2_3.out)
  have HC3_4 := Lib.hid (Ext.block ((hz12.trans hz13).trans hz14) HC2_4.out)
  have HC3_5 := Lib.hid (Ext.block ((hz12.trans hz13).trans hz14) HC2_5.out)
  have HC3_6 := Lib.hid (Ext.block ((hz12.trans hz13).trans hz14) HC2_6.out)
  have HC3_7 := Lib.hid (Ext.block ((hz12.trans hz13).trans hz14) HC2_7.out)
  replace rl := rl.ext ((hz12.trans hz13).trans hz14)
  replace rP := rP.ext ((hz12.trans hz13).trans hz14)
  replace rS := rS.ext ((hz12.trans hz13).trans hz14)
  replace rm := rm.ext ((hz12.trans hz13).trans hz14)
  replace rn := rn.ext ((hz12.trans hz13).trans hz14)
  replace rq := rq.ext ((hz12.trans hz13).trans hz14)
  replace rh := rh.ext ((hz12.trans hz13).trans hz14)
  replace rb := rb.ext ((hz12.trans hz13).trans hz14)
  have hq3 := (((hq2.trans hz12).trans hz13).trans hz14)
  as_aux_lemma =>
   refine blkStep (fun K HK => ?_)
   simp only [PK]
   go_wp2_with fail
   refine HK.out _ _ ?_
   clear HK K
   refine oneStep (fun K HK => ?_)
   simp only [PK]
   go_wp2_with fail
   refine (i_Revoked n _ q _ wn _ (rn.ext (Ext.refl _)) (rq.ext (Ext.refl _)) (by omega) (by omega)).mono ?_
   rintro e w15 ⟨rfl, hz15⟩
   try clear cf66
   try clear cf67
   try clear cf68
   try clear cf69
   try clear cf70
   try clear cf71
   try clear cf72
   have cf73 := blk3 (Ext.block hz15 HC3_1.out)
   have cf74 := blk1 (Ext.block hz15 HC3_2.out)
   have cf75 := blk1 (Ext.block hz15 HC3_3.out)
   have cf76 := blk3 (Ext.block hz15 HC3_4.out)
   have cf77 := blk3 (Ext.block hz15 HC3_5.out)
   have cf78 := blk3 (Ext.block hz15 HC3_6.out)
   have cf79 := blk3 (Ext.block hz15 HC3_7.out)
   go_wp2_with fail
   refine HK.out _ _ hz15 ?_
   clear HK K
   refine oneStep (fun K HK => ?_)
   simp only [PK]
   go_wp2_with fail
   refine (s_Revoked n _ q _ wn _ (rn.ext hz15) (rq.ext hz15) (by omega) (by omega)).mono ?_
   rintro e w16 ⟨rfl, hz16⟩
   try clear cf73
   try clear cf74
   try clear cf75
   try clear cf76
   try clear cf77
   try clear cf78
   try clear cf79
   have cf80 := blk3 (Ext.block (hz15.trans hz16) HC3_1.out)
   have cf81 := blk1 (Ext.block (hz15.trans hz16) HC3_2.out)
   have cf82 := blk1 (Ext.block (hz15.trans hz16) HC3_3.out)
   have cf83 := blk3 (Ext.block (hz15.trans hz16) HC3_4.out)
   have cf84 := blk3 (Ext.block (hz15.trans hz16) HC3_5.out)
   have cf85 := blk3 (Ext.block (hz15.trans hz16) HC3_6.out)
   have cf86 := blk3 (Ext.block (hz15.trans hz16) HC3_7.out)
   go_wp2_with fail
   refine HK.out _ _ hz16 ?_
   clear HK K
   refine blkStep (fun K HK => ?_)
   simp only [PK]
   go_wp2_with fail
   refine HK.out _ _ ?_
   clear HK K
   refine oneStep (fun K HK => ?_)
   simp only [PK]
   go_wp2_with fail
   refine (i_Affects h _ y _ (rh.ext (hz15.trans hz16)) (by omega)).mono ?_
   rintro e w17 ⟨rfl, hz17⟩
   try clear cf80
   try clear cf81
   try clear cf82
   try clear cf83
   try clear cf84
   try clear cf85
   try clear cf86
   have cf87 := blk3 (Ext.block ((hz15.trans hz16).trans hz17) HC3_1.out)
   have cf88 := blk1 (Ext.block ((hz15.trans hz16).trans hz17) HC3_2.out)
   have cf89 := blk1 (Ext.block ((hz15.trans hz16).trans hz17) HC3_3.out)
   have cf90 := blk3 (Ext.block ((hz15.trans hz16).trans hz17) HC3_4.out)
   have cf91 := blk3 (Ext.block ((hz15.trans hz16).trans hz17) HC3_5.out)
   have cf92 := blk3 (Ext.block ((hz15.trans hz16).trans hz17) HC3_6.out)
   have cf93 := blk3 (Ext.block ((hz15.trans hz16).trans hz17) HC3_7.out)
   go_wp2_with fail
   refine HK.out _ _ hz17 ?_
   clear HK K
   refine oneStep (fun K HK => ?_)
   simp only [PK]
   go_wp2_with fail
   refine (s_Affects h _ y _ (rh.ext ((hz15.trans hz16).trans hz17)) (by omega)).mono ?_
   rintro e w18 ⟨rfl, hz18⟩
   try clear cf87
   try clear cf88
   try clear cf89
   try clear cf90
   try clear cf91
   try clear cf92
   try clear cf93
   have cf94 := blk3 (Ext.block (((hz15.trans hz16).trans hz17).trans hz18) HC3_1.out)
   have cf95 := blk1 (Ext.block (((hz15.trans hz16).trans hz17).trans hz18) HC3_2.out)
   have cf96 := blk1 (Ext.block (((hz15.trans hz16).trans hz17).trans hz18) HC3_3.out)
   have cf97 := blk3 (Ext.block (((hz15.trans hz16).trans hz17).trans hz18) HC3_4.out)
   have cf98 := blk3 (Ext.block (((hz15.trans hz16).trans hz17).trans hz18) HC3_5.out)
   have cf99 := blk3 (Ext.block (((hz15.trans hz16).trans hz17).trans hz18) HC3_6.out)
   have cf100 := blk3 (Ext.block (((hz15.trans hz16).trans hz17).trans hz18) HC3_7.out)
   go_wp2_with fail
   refine HK.out _ _ hz18 ?_
   clear HK K
   have HC4_1 := Lib.hid (Ext.block (((hz15.trans hz16).trans hz17).trans hz18) HC3_1.out)
   have HC4_2 := Lib.hid (Ext.block (((hz15.trans hz16).trans hz17).trans hz18) HC3_2.out)
   have HC4_3 := Lib.hid (Ext.block (((hz15.trans hz16).trans hz17).trans hz18) HC3_3.out)
   have HC4_4 := Lib.hid (Ext.block (((hz15.trans hz16).trans hz17).trans hz18) HC3_4.out)
   have HC4_5 := Lib.hid (Ext.block (((hz15.trans hz16).trans hz17).trans hz18) HC3_5.out)
   have HC4_6 := Lib.hid (Ext.block (((hz15.trans hz16).trans hz17).trans hz18) HC3_6.out)
   have HC4_7 := Lib.hid (Ext.block (((hz15.trans hz16).trans hz17).trans hz18) HC3_7.out)
   replace rl := rl.ext (((hz15.trans hz16).trans hz17).trans hz18)
   replace rP := rP.ext (((hz15.trans hz16).trans hz17).trans hz18)
   replace rS := rS.ext (((hz15.trans hz16).trans hz17).trans hz18)
   replace rm := rm.ext (((hz15.trans hz16).trans hz17).trans hz18)
   replace rn := rn.ext (((hz15.trans hz16).trans hz17).trans hz18)
   replace rq := rq.ext (((hz15.trans hz16).trans hz17).trans hz18)
   replace rh := rh.ext (((hz15.trans hz16).trans hz17).trans hz18)
   replace rb := rb.ext (((hz15.trans hz16).trans hz17).trans hz18)
   have hq4 := ((((hq3.trans hz15).trans hz16).trans hz17).trans hz18)
   as_aux_lemma =>
    refine blkStep (fun K HK => ?_)
    simp only [PK]
    go_wp2_with fail
    refine HK.out _ _ ?_
    clear HK K
    refine oneStep (fun K HK => ?_)
    simp only [PK]
    go_wp2_with fail
    refine (i_EncodeRevocation o _).mono ?_
    rintro e w19 ⟨vE1, rfl, OE1, hz19⟩
    have rE1 := OwnF.rd (hf := byteFlen) OE1
    clear OE1
    obtain ⟨o_E1, c_E1, rfl, _⟩ := rE1.shape
    try clear cf94
    try clear cf95
    try clear cf96
    try clear cf97
    try clear cf98
    try clear cf99
    try clear cf100
    have cf101 := blk3 (Ext.block hz19 HC4_1.out)
    have cf102 := blk1 (Ext.block hz19 HC4_2.out)
    have cf103 := blk1 (Ext.block hz19 HC4_3.out)
    have cf104 := blk3 (Ext.block hz19 HC4_4.out)
    have cf105 := blk3 (Ext.block hz19 HC4_5.out)
    have cf106 := blk3 (Ext.block hz19 HC4_6.out)
    have cf107 := blk3 (Ext.block hz19 HC4_7.out)
    go_wp2_with fail
    refine HK.out _ _ hz19 ?_
    clear HK K
    refine oneStep (fun K HK => ?_)
    simp only [PK]
    go_wp2_with fail
    refine (s_EncodeRevocation o _).mono ?_
    rintro e w20 ⟨vE2, rfl, OE2, hz20⟩
    have rE2 := OwnF.rd (hf := byteFlen) OE2
    clear OE2
    obtain ⟨o_E2, c_E2, rfl, _⟩ := rE2.shape
    try clear cf101
    try clear cf102
    try clear cf103
    try clear cf104
    try clear cf105
    try clear cf106
    try clear cf107
    have cf108 := blk3 (Ext.block (hz19.trans hz20) HC4_1.out)
    have cf109 := blk1 (Ext.block (hz19.trans hz20) HC4_2.out)
    have cf110 := blk1 (Ext.block (hz19.trans hz20) HC4_3.out)
    have cf111 := blk3 (Ext.block (hz19.trans hz20) HC4_4.out)
    have cf112 := blk3 (Ext.block (hz19.trans hz20) HC4_5.out)
    have cf113 := blk3 (Ext.block (hz19.trans hz20) HC4_6.out)
    have cf114 := blk3 (Ext.block (hz19.trans hz20) HC4_7.out)
    go_wp2_with fail
    refine HK.out _ _ hz20 ?_
    clear HK K
    refine oneStep (fun K HK => ?_)
    simp only [PK]
    go_wp2_with fail
    refine (l_sameBT (encRev o) _ _ _ (rE1.ext hz20) (rE2.ext (Ext.refl _))).mono ?_
    rintro e w21 ⟨rfl, hz21⟩
    try clear cf108
    try clear cf109
    try clear cf110
    try clear cf111
    try clear cf112
    try clear cf113
    try clear cf114
    have cf115 := blk3 (Ext.block ((hz19.trans hz20).trans hz21) HC4_1.out)
    have cf116 := blk1 (Ext.block ((hz19.trans hz20).trans hz21) HC4_2.out)
    have cf117 := blk1 (Ext.block ((hz19.trans hz20).trans hz21) HC4_3.out)
    have cf118 := blk3 (Ext.block ((hz19.trans hz20).trans hz21) HC4_4.out)
    have cf119 := blk3 (Ext.block ((hz19.trans hz20).trans hz21) HC4_5.out)
    have cf120 := blk3 (Ext.block ((hz19.trans hz20).trans hz21) HC4_6.out)
    have cf121 := blk3 (Ext.block ((hz19.trans hz20).trans hz21) HC4_7.out)
    go_wp2_with fail
    refine HK.out _ _ hz21 ?_
    clear HK K
    have HC5_1 := Lib.hid (Ext.block ((hz19.trans hz20).trans hz21) HC4_1.out)
    have HC5_2 := Lib.hid (Ext.block ((hz19.trans hz20).trans hz21) HC4_2.out)
    have HC5_3 := Lib.hid (Ext.block ((hz19.trans hz20).trans hz21) HC4_3.out)
    have HC5_4 := Lib.hid (Ext.block ((hz19.trans hz20).trans hz21) HC4_4.out)
    have HC5_5 := Lib.hid (Ext.block ((hz19.trans hz20).trans hz21) HC4_5.out)
    have HC5_6 := Lib.hid (Ext.block ((hz19.trans hz20).trans hz21) HC4_6.out)
    have HC5_7 := Lib.hid (Ext.block ((hz19.trans hz20).trans hz21) HC4_7.out)
    replace rl := rl.ext ((hz19.trans hz20).trans hz21)
    replace rP := rP.ext ((hz19.trans hz20).trans hz21)
    replace rS := rS.ext ((hz19.trans hz20).trans hz21)
    replace rm := rm.ext ((hz19.trans hz20).trans hz21)
    replace rn := rn.ext ((hz19.trans hz20).trans hz21)
    replace rq := rq.ext ((hz19.trans hz20).trans hz21)
    replace rh := rh.ext ((hz19.trans hz20).trans hz21)
    replace rb := rb.ext ((hz19.trans hz20).trans hz21)
    have hq5 := (((hq4.trans hz19).trans hz20).trans hz21)
    as_aux_lemma =>
     refine blkStep (fun K HK => ?_)
     simp only [PK]
     go_wp2_with fail
     refine HK.out _ _ ?_
     clear HK K
     refine oneStep (fun K HK => ?_)
     simp only [PK]
     go_wp2_with fail
     refine (i_ValidRevocation o _).mono ?_
     rintro e w22 ⟨rfl, hz22⟩
     try clear cf115
     try clear cf116
     try clear cf117
     try clear cf118
     try clear cf119
     try clear cf120
     try clear cf121
     have cf122 := blk3 (Ext.block hz22 HC5_1.out)
     have cf123 := blk1 (Ext.block hz22 HC5_2.out)
     have cf124 := blk1 (Ext.block hz22 HC5_3.out)
     have cf125 := blk3 (Ext.block hz22 HC5_4.out)
     have cf126 := blk3 (Ext.block hz22 HC5_5.out)
     have cf127 := blk3 (Ext.block hz22 HC5_6.out)
     have cf128 := blk3 (Ext.block hz22 HC5_7.out)
     go_wp2_with fail
     refine HK.out _ _ hz22 ?_
     clear HK K
     refine oneStep (fun K HK => ?_)
     simp only [PK]
     go_wp2_with fail
     refine (s_ValidRevocation o _).mono ?_
     rintro e w23 ⟨rfl, hz23⟩
     try clear cf122
     try clear cf123
     try clear cf124
     try clear cf125
     try clear cf126
     try clear cf127
     try clear cf128
     have cf129 := blk3 (Ext.block (hz22.trans hz23) HC5_1.out)
     have cf130 := blk1 (Ext.block (hz22.trans hz23) HC5_2.out)
     have cf131 := blk1 (Ext.block (hz22.trans hz23) HC5_3.out)
     have cf132 := blk3 (Ext.block (hz22.trans hz23) HC5_4.out)
     have cf133 := blk3 (Ext.block (hz22.trans hz23) HC5_5.out)
     have cf134 := blk3 (Ext.block (hz22.trans hz23) HC5_6.out)
     have cf135 := blk3 (Ext.block (hz22.trans hz23) HC5_7.out)
     go_wp2_with fail
     refine HK.out _ _ hz23 ?_
     clear HK K
     refine blkStep (fun K HK => ?_)
     simp only [PK]
     go_wp2_with fail
     refine HK.out _ _ ?_
     clear HK K
     refine oneStep (fun K HK => ?_)
     simp only [PK]
     go_wp2_with fail
     refine (i_ActiveRevocations m _ wn _ (rm.ext (hz22.trans hz23)) (by omega)).mono ?_
     rintro e w24 ⟨vV1, rfl, OV1, hz24⟩
     have rV1 := OwnF.rd (hf := Revc.flen) OV1
     clear OV1
     obtain ⟨o_V1, c_V1, rfl, _⟩ := rV1.shape
     try clear cf129
     try clear cf130
     try clear cf131
     try clear cf132
     try clear cf133
     try clear cf134
     try clear cf135
     have cf136 := blk3 (Ext.block ((hz22.trans hz23).trans hz24) HC5_1.out)
     have cf137 := blk1 (Ext.block ((hz22.trans hz23).trans hz24) HC5_2.out)
     have cf138 := blk1 (Ext.block ((hz22.trans hz23).trans hz24) HC5_3.out)
     have cf139 := blk3 (Ext.block ((hz22.trans hz23).trans hz24) HC5_4.out)
     have cf140 := blk3 (Ext.block ((hz22.trans hz23).trans hz24) HC5_5.out)
     have cf141 := blk3 (Ext.block ((hz22.trans hz23).trans hz24) HC5_6.out)
     have cf142 := blk3 (Ext.block ((hz22.trans hz23).trans hz24) HC5_7.out)
     go_wp2_with fail
     refine HK.out _ _ hz24 ?_
     clear HK K
     refine oneStep (fun K HK => ?_)
     simp only [PK]
     go_wp2_with fail
     refine (s_ActiveRevocations m _ wn _ (rm.ext ((hz22.trans hz23).trans hz24)) (by omega)).mono ?_
     rintro e w25 ⟨vV2, rfl, OV2, hz25⟩
     have rV2 := OwnF.rd (hf := Revc.flen) OV2
     clear OV2
     obtain ⟨o_V2, c_V2, rfl, _⟩ := rV2.shape
     try clear cf136
     try clear cf137
     try clear cf138
     try clear cf139
     try clear cf140
     try clear cf141
     try clear cf142
     have cf143 := blk3 (Ext.block (((hz22.trans hz23).trans hz24).trans hz25) HC5_1.out)
     have cf144 := blk1 (Ext.block (((hz22.trans hz23).trans hz24).trans hz25) HC5_2.out)
     have cf145 := blk1 (Ext.block (((hz22.trans hz23).trans hz24).trans hz25) HC5_3.out)
     have cf146 := blk3 (Ext.block (((hz22.trans hz23).trans hz24).trans hz25) HC5_4.out)
     have cf147 := blk3 (Ext.block (((hz22.trans hz23).trans hz24).trans hz25) HC5_5.out)
     have cf148 := blk3 (Ext.block (((hz22.trans hz23).trans hz24).trans hz25) HC5_6.out)
     have cf149 := blk3 (Ext.block (((hz22.trans hz23).trans hz24).trans hz25) HC5_7.out)
     go_wp2_with fail
     refine HK.out _ _ hz25 ?_
     clear HK K
     refine oneStep (fun K HK => ?_)
     simp only [PK]
     go_wp2_with fail
     refine (l_sameNotesT (activeRevs wn m) _ _ _ (rV1.ext hz25) (rV2.ext (Ext.refl _))).mono ?_
     rintro e w26 ⟨rfl, hz26⟩
     try clear cf143
     try clear cf144
     try clear cf145
     try clear cf146
     try clear cf147
     try clear cf148
     try clear cf149
     have cf150 := blk3 (Ext.block ((((hz22.trans hz23).trans hz24).trans hz25).trans hz26) HC5_1.out)
     have cf151 := blk1 (Ext.block ((((hz22.trans hz23).trans hz24).trans hz25).trans hz26) HC5_2.out)
     have cf152 := blk1 (Ext.block ((((hz22.trans hz23).trans hz24).trans hz25).trans hz26) HC5_3.out)
     have cf153 := blk3 (Ext.block ((((hz22.trans hz23).trans hz24).trans hz25).trans hz26) HC5_4.out)
     have cf154 := blk3 (Ext.block ((((hz22.trans hz23).trans hz24).trans hz25).trans hz26) HC5_5.out)
     have cf155 := blk3 (Ext.block ((((hz22.trans hz23).trans hz24).trans hz25).trans hz26) HC5_6.out)
     have cf156 := blk3 (Ext.block ((((hz22.trans hz23).trans hz24).trans hz25).trans hz26) HC5_7.out)
     go_wp2_with fail
     refine HK.out _ _ hz26 ?_
     clear HK K
     refine blkStep (fun K HK => ?_)
     simp only [PK]
     go_wp2_with fail
     refine HK.out _ _ ?_
     clear HK K
     refine doneStep (by kernel_rfl) ?_
     clear hne1 hne2 hne3 hne4 hne5 hne6 hne7
     go_wp2_with fail
     have HC6_1 := Lib.hid (Ext.block ((((hz22.trans hz23).trans hz24).trans hz25).trans hz26) HC5_1.out)
     have HC6_2 := Lib.hid (Ext.block ((((hz22.trans hz23).trans hz24).trans hz25).trans hz26) HC5_2.out)
     have HC6_3 := Lib.hid (Ext.block ((((hz22.trans hz23).trans hz24).trans hz25).trans hz26) HC5_3.out)
     have HC6_4 := Lib.hid (Ext.block ((((hz22.trans hz23).trans hz24).trans hz25).trans hz26) HC5_4.out)
     have HC6_5 := Lib.hid (Ext.block ((((hz22.trans hz23).trans hz24).trans hz25).trans hz26) HC5_5.out)
     have HC6_6 := Lib.hid (Ext.block ((((hz22.trans hz23).trans hz24).trans hz25).trans hz26) HC5_6.out)
     have HC6_7 := Lib.hid (Ext.block ((((hz22.trans hz23).trans hz24).trans hz25).trans hz26) HC5_7.out)
     replace rl := rl.ext ((((hz22.trans hz23).trans hz24).trans hz25).trans hz26)
     replace rP := rP.ext ((((hz22.trans hz23).trans hz24).trans hz25).trans hz26)
     replace rS := rS.ext ((((hz22.trans hz23).trans hz24).trans hz25).trans hz26)
     replace rm := rm.ext ((((hz22.trans hz23).trans hz24).trans hz25).trans hz26)
     replace rn := rn.ext ((((hz22.trans hz23).trans hz24).trans hz25).trans hz26)
     replace rq := rq.ext ((((hz22.trans hz23).trans hz24).trans hz25).trans hz26)
     replace rh := rh.ext ((((hz22.trans hz23).trans hz24).trans hz25).trans hz26)
     replace rb := rb.ext ((((hz22.trans hz23).trans hz24).trans hz25).trans hz26)
     have hq6 := (((((hq5.trans hz22).trans hz23).trans hz24).trans hz25).trans hz26)
     go_loopg [20] (S.length + 1) (fun gk i wr => ∃ k : Nat, gk + k = S.length + 1 ∧ i = .int .i64 (1 + k : Int) ∧ Ext w26 wr)
     case atStart => exact ⟨0, by omega, by simp, Ext.refl _⟩
     case round =>
      obtain ⟨k, hgk, rfl, hx⟩ := hrel
      have HGK := Lib.hid hgk
      clear hgk
      have hkl : k ≤ S.length + 1 := by have h1 := HGK.out; omega
      have hs8 : S.length ≤ 8 := by have h1 := HSL.out; omega
      by_cases hlt : k + 1 < S.length
      ·
       have hlt2 : 1 + (k : Int) < (S.length : Int) := by omega
       have hk0 : (1 : Int) + (k : Int) - 1 = (k : Int) := by omega
       have hk1 : (k : Int) < (S.length : Int) := by omega
       have hk2 : (0 : Int) ≤ 1 + (k : Int) := by omega
       have hk3 : (1 + (k : Int)).toNat = k + 1 := by omega
       obtain ⟨b1, off1, v1, c1, hb1, hc1, hr1⟩ := Pth.at (rS.ext hx) k (by omega)
       obtain ⟨b2, off2, v2, c2, hb2, hc2, hr2⟩ := Pth.at (rS.ext hx) (k + 1) hlt
       cases hb1
       cases hb2
       have hz1 := hSz _ (List.getElem_mem (show k < S.length by omega))
       have hz2 := hSz _ (List.getElem_mem hlt)
       have HNX : Hid (revoked l S[k] 45 = true → revoked l S[k + 1] 45 = true) := Lib.hid (fun h => by
        have e := HS.out
        subst e
        exact prefer_next hlt h)
       obtain ⟨x1, hx1q⟩ : ∃ x1, x1 = S[k] := ⟨_, rfl⟩
       obtain ⟨x2, hx2q⟩ : ∃ x2, x2 = S[k + 1] := ⟨_, rfl⟩
       rw [← hx1q] at hc1 hr1 hz1 HNX
       rw [← hx2q] at hc2 hr2 hz2 HNX
       clear hx1q hx2q
       try clear cf150
       try clear cf151
       try clear cf152
       try clear cf153
       try clear cf154
       try clear cf155
       try clear cf156
       have cf157 := blk3 (Ext.block hx HC6_1.out)
       have cf158 := blk1 (Ext.block hx HC6_2.out)
       have cf159 := blk1 (Ext.block hx HC6_3.out)
       have cf160 := blk3 (Ext.block hx HC6_4.out)
       have cf161 := blk3 (Ext.block hx HC6_5.out)
       have cf162 := blk3 (Ext.block hx HC6_6.out)
       have cf163 := blk3 (Ext.block hx HC6_7.out)
       go_wp2_with fail
       refine (i_Revoked l _ x1 _ 45 _ (rl.ext hx) (hr1.ext (Ext.refl _)) (by omega) (by omega)).mono ?_
       rintro e w27 ⟨rfl, hz27⟩
       cases hrv : revoked l x1 45
       ·
        try clear cf157
        try clear cf158
        try clear cf159
        try clear cf160
        try clear cf161
        try clear cf162
        try clear cf163
        have cf164 := blk3 (Ext.block (hx.trans hz27) HC6_1.out)
        have cf165 := blk1 (Ext.block (hx.trans hz27) HC6_2.out)
        have cf166 := blk1 (Ext.block (hx.trans hz27) HC6_3.out)
        have cf167 := blk3 (Ext.block (hx.trans hz27) HC6_4.out)
        have cf168 := blk3 (Ext.block (hx.trans hz27) HC6_5.out)
        have cf169 := blk3 (Ext.block (hx.trans hz27) HC6_6.out)
        have cf170 := blk3 (Ext.block (hx.trans hz27) HC6_7.out)
        have cf171 := Ext.cell hz27 hc1
        have cf172 := Ext.cell hz27 hc2
        go_wp2_with fail
        go_roundg (gk - 1)
        case measure => have h1 := HGK.out; omega
        case rel => exact ⟨k + 1, by have h1 := HGK.out; omega, congrArg (Value.int .i64) (by first | omega | (unfold wrap64; omega)), (hx.trans hz27)⟩
       ·
        have hnx := HNX.out hrv
        try clear cf157
        try clear cf158
        try clear cf159
        try clear cf160
        try clear cf161
        try clear cf162
        try clear cf163
        have cf173 := blk3 (Ext.block (hx.trans hz27) HC6_1.out)
        have cf174 := blk1 (Ext.block (hx.trans hz27) HC6_2.out)
        have cf175 := blk1 (Ext.block (hx.trans hz27) HC6_3.out)
        have cf176 := blk3 (Ext.block (hx.trans hz27) HC6_4.out)
        have cf177 := blk3 (Ext.block (hx.trans hz27) HC6_5.out)
        have cf178 := blk3 (Ext.block (hx.trans hz27) HC6_6.out)
        have cf179 := blk3 (Ext.block (hx.trans hz27) HC6_7.out)
        have cf180 := Ext.cell hz27 hc1
        have cf181 := Ext.cell hz27 hc2
        go_wp2_with fail
        refine (i_Revoked l _ x2 _ 45 _ (rl.ext (hx.trans hz27)) (hr2.ext hz27) (by omega) (by omega)).mono ?_
        rintro e w28 ⟨rfl, hz28⟩
        rw [hnx]
        try clear cf173
        try clear cf174
        try clear cf175
        try clear cf176
        try clear cf177
        try clear cf178
        try clear cf179
        try clear cf180
        try clear cf181
        have cf182 := blk3 (Ext.block ((hx.trans hz27).trans hz28) HC6_1.out)
        have cf183 := blk1 (Ext.block ((hx.trans hz27).trans hz28) HC6_2.out)
        have cf184 := blk1 (Ext.block ((hx.trans hz27).trans hz28) HC6_3.out)
        have cf185 := blk3 (Ext.block ((hx.trans hz27).trans hz28) HC6_4.out)
        have cf186 := blk3 (Ext.block ((hx.trans hz27).trans hz28) HC6_5.out)
        have cf187 := blk3 (Ext.block ((hx.trans hz27).trans hz28) HC6_6.out)
        have cf188 := blk3 (Ext.block ((hx.trans hz27).trans hz28) HC6_7.out)
        have cf189 := Ext.cell (hz27.trans hz28) hc1
        have cf190 := Ext.cell (hz27.trans hz28) hc2
        go_wp2_with fail
        go_roundg (gk - 1)
        case measure => have h1 := HGK.out; omega
        case rel => exact ⟨k + 1, by have h1 := HGK.out; omega, congrArg (Value.int .i64) (by first | omega | (unfold wrap64; omega)), ((hx.trans hz27).trans hz28)⟩
      ·
       have hlt2 : ¬ 1 + (k : Int) < (S.length : Int) := by omega
       try clear cf150
       try clear cf151
       try clear cf152
       try clear cf153
       try clear cf154
       try clear cf155
       try clear cf156
       have cf191 := blk3 (Ext.block hx HC6_1.out)
       have cf192 := blk1 (Ext.block hx HC6_2.out)
       have cf193 := blk1 (Ext.block hx HC6_3.out)
       have cf194 := blk3 (Ext.block hx HC6_4.out)
       have cf195 := blk3 (Ext.block hx HC6_5.out)
       have cf196 := blk3 (Ext.block hx HC6_6.out)
       have cf197 := blk3 (Ext.block hx HC6_7.out)
       go_wp2_with fail
       refine (i_EncodeRevocation o _).mono ?_
       rintro e w29 ⟨vE3, rfl, OE3, hz29⟩
       have rE3 := OwnF.rd (hf := byteFlen) OE3
       clear OE3
       obtain ⟨o_E3, c_E3, rfl, _⟩ := rE3.shape
       have hel := encRev_small o
       obtain ⟨z3, k3, hd3⟩ : ∃ (z3 : Revc) (k3 : Bool), decRev (encRev o) = (z3, k3) := ⟨_, _, rfl⟩
       have HD3 := Lib.hid hd3
       try clear cf191
       try clear cf192
       try clear cf193
       try clear cf194
       try clear cf195
       try clear cf196
       try clear cf197
       have cf198 := blk3 (Ext.block (hx.trans hz29) HC6_1.out)
       have cf199 := blk1 (Ext.block (hx.trans hz29) HC6_2.out)
       have cf200 := blk1 (Ext.block (hx.trans hz29) HC6_3.out)
       have cf201 := blk3 (Ext.block (hx.trans hz29) HC6_4.out)
       have cf202 := blk3 (Ext.block (hx.trans hz29) HC6_5.out)
       have cf203 := blk3 (Ext.block (hx.trans hz29) HC6_6.out)
       have cf204 := blk3 (Ext.block (hx.trans hz29) HC6_7.out)
       go_wp2_with fail
       refine (i_DecodeRevocation (encRev o) _ _ (rE3.ext (Ext.refl _)) (encRev_u8 o) (by omega)).mono ?_
       rintro e w30 ⟨rfl, hz30⟩
       rw [HD3.out]
       have hx9 : Ext w30 (w30.alloc (.cells #[.int .i64 z3.asn, .int .i64 z3.iface, .int .i64 z3.till] 30)) := (Ext.refl _).alloc _
       have HB9 := Lib.hid (blk_new w30 (.cells #[.int .i64 z3.asn, .int .i64 z3.iface, .int .i64 z3.till] 30))
       try clear cf198
       try clear cf199
       try clear cf200
       try clear cf201
       try clear cf202
       try clear cf203
       try clear cf204
       have cf205 := blk3 (Ext.block (((hx.trans hz29).trans hz30).trans hx9) HC6_1.out)
       have cf206 := blk1 (Ext.block (((hx.trans hz29).trans hz30).trans hx9) HC6_2.out)
       have cf207 := blk1 (Ext.block (((hx.trans hz29).trans hz30).trans hx9) HC6_3.out)
       have cf208 := blk3 (Ext.block (((hx.trans hz29).trans hz30).trans hx9) HC6_4.out)
       have cf209 := blk3 (Ext.block (((hx.trans hz29).trans hz30).trans hx9) HC6_5.out)
       have cf210 := blk3 (Ext.block (((hx.trans hz29).trans hz30).trans hx9) HC6_6.out)
       have cf211 := blk3 (Ext.block (((hx.trans hz29).trans hz30).trans hx9) HC6_7.out)
       have cf212 := blk3 HB9.out
       have HC7_1 := Lib.hid (Ext.block (((hx.trans hz29).trans hz30).trans hx9) HC6_1.out)
       have HC7_2 := Lib.hid (Ext.block (((hx.trans hz29).trans hz30).trans hx9) HC6_2.out)
       have HC7_3 := Lib.hid (Ext.block (((hx.trans hz29).trans hz30).trans hx9) HC6_3.out)
       have HC7_4 := Lib.hid (Ext.block (((hx.trans hz29).trans hz30).trans hx9) HC6_4.out)
       have HC7_5 := Lib.hid (Ext.block (((hx.trans hz29).trans hz30).trans hx9) HC6_5.out)
       have HC7_6 := Lib.hid (Ext.block (((hx.trans hz29).trans hz30).trans hx9) HC6_6.out)
       have HC7_7 := Lib.hid (Ext.block (((hx.trans hz29).trans hz30).trans hx9) HC6_7.out)
       replace rl := rl.ext (((hx.trans hz29).trans hz30).trans hx9)
       replace rP := rP.ext (((hx.trans hz29).trans hz30).trans hx9)
       replace rS := rS.ext (((hx.trans hz29).trans hz30).trans hx9)
       replace rm := rm.ext (((hx.trans hz29).trans hz30).trans hx9)
       replace rn := rn.ext (((hx.trans hz29).trans hz30).trans hx9)
       replace rq := rq.ext (((hx.trans hz29).trans hz30).trans hx9)
       replace rh := rh.ext (((hx.trans hz29).trans hz30).trans hx9)
       replace rb := rb.ext (((hx.trans hz29).trans hz30).trans hx9)
       have hq7 := ((((hq6.trans hx).trans hz29).trans hz30).trans hx9)
       have hk3 : (k3 == validRev o) = true ∧ (k3 = true → z3 = o) := by
        cases hv : validRev o
        ·
         have h1 := dec_none hv
         rw [hd3] at h1
         have h2 : k3 = false := h1
         rw [h2]; exact ⟨rfl, fun h => by cases h⟩
        ·
         have h1 := dec_enc hv
         rw [hd3] at h1
         cases h1
         exact ⟨rfl, fun _ => rfl⟩
       obtain ⟨hkv, hkz⟩ := hk3
       clear hd3
       have hSl2 : ((S.length : Int) == (P.length : Int)) = true := by rw [HSL.out]; simp
       have hadd := addRev_le m x hm16
       have hadd2 : ((addRev m x).length : Int) ≤ 16 := by omega
       have hact : validRev x = true → m.length < 16 → 0 < (activeRevs x.till (addRev m x)).length := fun h1 h2 => add_active h1 h2
       have HACT := Lib.hid hact
       clear hact
       cases k3
       ·
        clear hkz
        go_wp2_with fail
        refine planStep (.blk [0, 1, 2, 3, 4, 5, 6, 7] (.one 8 (.blk [9, 10, 11, 12, 13, 14] (.blk [15, 16, 17] (.blk [18, 19, 20, 21, 22] (.one 23 (.blk [24, 25, 26, 27, 28] (.one 29 (.blk [30, 31] (.blk [32, 33, 34] (.blk [35, 36] (.blk [37, 38, 40, 41] (.one 39 (.one 42 (.blk [43, 44] (.blk [45, 46, 47] .done)))))))))))))))) [] (by kernel_rfl) (by kernel_rfl) ?_
        try clear cf205
        try clear cf206
        try clear cf207
        try clear cf208
        try clear cf209
        try clear cf210
        try clear cf211
        try clear cf212
        have cf213 := blk3 (Ext.block ((Ext.refl _).drew) HC7_1.out)
        have cf214 := blk1 (Ext.block ((Ext.refl _).drew) HC7_2.out)
        have cf215 := blk1 (Ext.block ((Ext.refl _).drew) HC7_3.out)
        have cf216 := blk3 (Ext.block ((Ext.refl _).drew) HC7_4.out)
        have cf217 := blk3 (Ext.block ((Ext.refl _).drew) HC7_5.out)
        have cf218 := blk3 (Ext.block ((Ext.refl _).drew) HC7_6.out)
        have cf219 := blk3 (Ext.block ((Ext.refl _).drew) HC7_7.out)
        have cf220 := blk3 (Ext.block ((Ext.refl _).drew) HB9.out)
        refine blkStep (fun K HK => ?_)
        simp only [PK]
        go_wp2_with fail
        refine HK.out _ _ ?_
        clear HK K
        refine oneStep (fun K HK => ?_)
        simp only [PK]
        go_wp2_with fail
        refine (i_ValidRevocation o _).mono ?_
        rintro e w31 ⟨rfl, hz31⟩
        try clear cf213
        try clear cf214
        try clear cf215
        try clear cf216
        try clear cf217
        try clear cf218
        try clear cf219
        try clear cf220
        have cf221 := blk3 (Ext.block (((Ext.refl _).drew).trans hz31) HC7_1.out)
        have cf222 := blk1 (Ext.block (((Ext.refl _).drew).trans hz31) HC7_2.out)
        have cf223 := blk1 (Ext.block (((Ext.refl _).drew).trans hz31) HC7_3.out)
        have cf224 := blk3 (Ext.block (((Ext.refl _).drew).trans hz31) HC7_4.out)
        have cf225 := blk3 (Ext.block (((Ext.refl _).drew).trans hz31) HC7_5.out)
        have cf226 := blk3 (Ext.block (((Ext.refl _).drew).trans hz31) HC7_6.out)
        have cf227 := blk3 (Ext.block (((Ext.refl _).drew).trans hz31) HC7_7.out)
        have cf228 := blk3 (Ext.block (((Ext.refl _).drew).trans hz31) HB9.out)
        go_wp2_with fail
        refine HK.out _ _ hz31 ?_
        clear HK K
        refine blkStep (fun K HK => ?_)
        simp only [PK]
        go_wp2_with fail
        refine HK.out _ _ ?_
        clear HK K
        refine blkSkip [182, 183, 184] (by kernel_rfl) ?_
        simp only [undefs, Act.put, List.setIfInBounds_toArray, List.set_cons_succ, List.set_cons_zero]
        refine blkStep (fun K HK => ?_)
        simp only [PK]
        go_wp2_with fail
        refine HK.out _ _ ?_
        clear HK K
        refine oneStep (fun K HK => ?_)
        simp only [PK]
        go_wp2_with fail
        refine (i_AddRevocation m _ x _ (rm.ext (((Ext.refl _).drew).trans hz31)) (by omega)).mono ?_
        rintro e w32 ⟨vF1, rfl, OF1, hz32⟩
        have rF1 := OwnF.rd (hf := Revc.flen) OF1
        clear OF1
        obtain ⟨o_F1, c_F1, rfl, _⟩ := rF1.shape
        try clear cf221
        try clear cf222
        try clear cf223
        try clear cf224
        try clear cf225
        try clear cf226
        try clear cf227
        try clear cf228
        have cf229 := blk3 (Ext.block ((((Ext.refl _).drew).trans hz31).trans hz32) HC7_1.out)
        have cf230 := blk1 (Ext.block ((((Ext.refl _).drew).trans hz31).trans hz32) HC7_2.out)
        have cf231 := blk1 (Ext.block ((((Ext.refl _).drew).trans hz31).trans hz32) HC7_3.out)
        have cf232 := blk3 (Ext.block ((((Ext.refl _).drew).trans hz31).trans hz32) HC7_4.out)
        have cf233 := blk3 (Ext.block ((((Ext.refl _).drew).trans hz31).trans hz32) HC7_5.out)
        have cf234 := blk3 (Ext.block ((((Ext.refl _).drew).trans hz31).trans hz32) HC7_6.out)
        have cf235 := blk3 (Ext.block ((((Ext.refl _).drew).trans hz31).trans hz32) HC7_7.out)
        have cf236 := blk3 (Ext.block ((((Ext.refl _).drew).trans hz31).trans hz32) HB9.out)
        go_wp2_with fail
        refine HK.out _ _ hz32 ?_
        clear HK K
        cases hvx : validRev x
        ·
         refine blkStep (fun K HK => ?_)
         simp only [PK]
         go_wp2_with fail
         refine HK.out _ _ ?_
         clear HK K
         refine oneStep (fun K HK => ?_)
         simp only [PK]
         go_wp2_with fail
         refine (i_ValidRevocation x _).mono ?_
         rintro e w33 ⟨rfl, hz33⟩
         rw [hvx]
         try clear cf229
         try clear cf230
         try clear cf231
         try clear cf232
         try clear cf233
         try clear cf234
         try clear cf235
         try clear cf236
         have cf237 := blk3 (Ext.block (((((Ext.refl _).drew).trans hz31).trans hz32).trans hz33) HC7_1.out)
         have cf238 := blk1 (Ext.block (((((Ext.refl _).drew).trans hz31).trans hz32).trans hz33) HC7_2.out)
         have cf239 := blk1 (Ext.block (((((Ext.refl _).drew).trans hz31).trans hz32).trans hz33) HC7_3.out)
         have cf240 := blk3 (Ext.block (((((Ext.refl _).drew).trans hz31).trans hz32).trans hz33) HC7_4.out)
         have cf241 := blk3 (Ext.block (((((Ext.refl _).drew).trans hz31).trans hz32).trans hz33) HC7_5.out)
         have cf242 := blk3 (Ext.block (((((Ext.refl _).drew).trans hz31).trans hz32).trans hz33) HC7_6.out)
         have cf243 := blk3 (Ext.block (((((Ext.refl _).drew).trans hz31).trans hz32).trans hz33) HC7_7.out)
         have cf244 := blk3 (Ext.block (((((Ext.refl _).drew).trans hz31).trans hz32).trans hz33) HB9.out)
         go_wp2_with fail
         refine HK.out _ _ hz33 ?_
         clear HK K
         refine blkStep (fun K HK => ?_)
         simp only [PK]
         go_wp2_with fail
         refine HK.out _ _ ?_
         clear HK K
         refine blkSkip [199, 200, 201] (by kernel_rfl) ?_
         simp only [undefs, Act.put, List.setIfInBounds_toArray, List.set_cons_succ, List.set_cons_zero]
         refine blkStep (fun K HK => ?_)
         simp only [PK]
         go_wp2_with fail
         refine HK.out _ _ ?_
         clear HK K
         refine blkSkip [204, 205, 207, 208] (by kernel_rfl) ?_
         simp only [undefs, Act.put, List.setIfInBounds_toArray, List.set_cons_succ, List.set_cons_zero]
         refine oneSkip [206] (by kernel_rfl) ?_
         simp only [undefs, Act.put, List.setIfInBounds_toArray, List.set_cons_succ, List.set_cons_zero]
         refine oneSkip [209] (by kernel_rfl) ?_
         simp only [undefs, Act.put, List.setIfInBounds_toArray, List.set_cons_succ, List.set_cons_zero]
         refine blkSkip [210, 211] (by kernel_rfl) ?_
         simp only [undefs, Act.put, List.setIfInBounds_toArray, List.set_cons_succ, List.set_cons_zero]
         refine blkStep (fun K HK => ?_)
         simp only [PK]
         go_wp2_with fail
         refine HK.out _ _ ?_
         clear HK K
         refine doneStep (by kernel_rfl) ?_
         go_wp2_with fail
         go_ret
         exact ⟨rfl, ((((hq7.trans ((Ext.refl _).drew)).trans hz31).trans hz32).trans hz33)⟩
        ·
         refine blkStep (fun K HK => ?_)
         simp only [PK]
         go_wp2_with fail
         refine HK.out _ _ ?_
         clear HK K
         refine oneStep (fun K HK => ?_)
         simp only [PK]
         go_wp2_with fail
         refine (i_ValidRevocation x _).mono ?_
         rintro e w34 ⟨rfl, hz34⟩
         rw [hvx]
         try clear cf229
         try clear cf230
         try clear cf231
         try clear cf232
         try clear cf233
         try clear cf234
         try clear cf235
         try clear cf236
         have cf245 := blk3 (Ext.block (((((Ext.refl _).drew).trans hz31).trans hz32).trans hz34) HC7_1.out)
         have cf246 := blk1 (Ext.block (((((Ext.refl _).drew).trans hz31).trans hz32).trans hz34) HC7_2.out)
         have cf247 := blk1 (Ext.block (((((Ext.refl _).drew).trans hz31).trans hz32).trans hz34) HC7_3.out)
         have cf248 := blk3 (Ext.block (((((Ext.refl _).drew).trans hz31).trans hz32).trans hz34) HC7_4.out)
         have cf249 := blk3 (Ext.block (((((Ext.refl _).drew).trans hz31).trans hz32).trans hz34) HC7_5.out)
         have cf250 := blk3 (Ext.block (((((Ext.refl _).drew).trans hz31).trans hz32).trans hz34) HC7_6.out)
         have cf251 := blk3 (Ext.block (((((Ext.refl _).drew).trans hz31).trans hz32).trans hz34) HC7_7.out)
         have cf252 := blk3 (Ext.block (((((Ext.refl _).drew).trans hz31).trans hz32).trans hz34) HB9.out)
         go_wp2_with fail
         refine HK.out _ _ hz34 ?_
         clear HK K
         cases hge : decide (16 ≤ m.length)
         ·
          have hlt16 : m.length < 16 := by have h1 := of_decide_eq_false hge; omega
          clear hge
          have hge : ¬ (16 : Int) ≤ (m.length : Int) := by omega
          have hac := HACT.out hvx hlt16
          have hac2 : (0 : Int) < ((activeRevs x.till (addRev m x)).length : Int) := by omega
          clear hlt16
          refine blkStep (fun K HK => ?_)
          simp only [PK]
          go_wp2_with fail
          refine HK.out _ _ ?_
          clear HK K
          refine blkStep (fun K HK => ?_)
          simp only [PK]
          go_wp2_with fail
          refine HK.out _ _ ?_
          clear HK K
          refine blkStep (fun K HK => ?_)
          simp only [PK]
          go_wp2_with fail
          refine HK.out _ _ ?_
          clear HK K
          refine blkStep (fun K HK => ?_)
          simp only [PK]
          go_wp2_with fail
          refine HK.out _ _ ?_
          clear HK K
          refine oneStep (fun K HK => ?_)
          simp only [PK]
          go_wp2_with fail
          refine (i_AddRevocation m _ x _ (rm.ext (((((Ext.refl _).drew).trans hz31).trans hz32).trans hz34)) (by omega)).mono ?_
          rintro e w35 ⟨vF2, rfl, OF2, hz35⟩
          have rF2 := OwnF.rd (hf := Revc.flen) OF2
          clear OF2
          obtain ⟨o_F2, c_F2, rfl, _⟩ := rF2.shape
          try clear cf245
          try clear cf246
          try clear cf247
          try clear cf248
          try clear cf249
          try clear cf250
          try clear cf251
          try clear cf252
          have cf253 := blk3 (Ext.block ((((((Ext.refl _).drew).trans hz31).trans hz32).trans hz34).trans hz35) HC7_1.out)
          have cf254 := blk1 (Ext.block ((((((Ext.refl _).drew).trans hz31).trans hz32).trans hz34).trans hz35) HC7_2.out)
          have cf255 := blk1 (Ext.block ((((((Ext.refl _).drew).trans hz31).trans hz32).trans hz34).trans hz35) HC7_3.out)
          have cf256 := blk3 (Ext.block ((((((Ext.refl _).drew).trans hz31).trans hz32).trans hz34).trans hz35) HC7_4.out)
          have cf257 := blk3 (Ext.block ((((((Ext.refl _).drew).trans hz31).trans hz32).trans hz34).trans hz35) HC7_5.out)
          have cf258 := blk3 (Ext.block ((((((Ext.refl _).drew).trans hz31).trans hz32).trans hz34).trans hz35) HC7_6.out)
          have cf259 := blk3 (Ext.block ((((((Ext.refl _).drew).trans hz31).trans hz32).trans hz34).trans hz35) HC7_7.out)
          have cf260 := blk3 (Ext.block ((((((Ext.refl _).drew).trans hz31).trans hz32).trans hz34).trans hz35) HB9.out)
          go_wp2_with fail
          refine HK.out _ _ hz35 ?_
          clear HK K
          refine oneStep (fun K HK => ?_)
          simp only [PK]
          go_wp2_with fail
          refine (i_ActiveRevocations (addRev m x) _ x.till _ (rF2.ext (Ext.refl _)) (by omega)).mono ?_
          rintro e w36 ⟨vF3, rfl, OF3, hz36⟩
          have rF3 := OwnF.rd (hf := Revc.flen) OF3
          clear OF3
          obtain ⟨o_F3, c_F3, rfl, _⟩ := rF3.shape
          try clear cf253
          try clear cf254
          try clear cf255
          try clear cf256
          try clear cf257
          try clear cf258
          try clear cf259
          try clear cf260
          have cf261 := blk3 (Ext.block (((((((Ext.refl _).drew).trans hz31).trans hz32).trans hz34).trans hz35).trans hz36) HC7_1.out)
          have cf262 := blk1 (Ext.block (((((((Ext.refl _).drew).trans hz31).trans hz32).trans hz34).trans hz35).trans hz36) HC7_2.out)
          have cf263 := blk1 (Ext.block (((((((Ext.refl _).drew).trans hz31).trans hz32).trans hz34).trans hz35).trans hz36) HC7_3.out)
          have cf264 := blk3 (Ext.block (((((((Ext.refl _).drew).trans hz31).trans hz32).trans hz34).trans hz35).trans hz36) HC7_4.out)
          have cf265 := blk3 (Ext.block (((((((Ext.refl _).drew).trans hz31).trans hz32).trans hz34).trans hz35).trans hz36) HC7_5.out)
          have cf266 := blk3 (Ext.block (((((((Ext.refl _).drew).trans hz31).trans hz32).trans hz34).trans hz35).trans hz36) HC7_6.out)
          have cf267 := blk3 (Ext.block (((((((Ext.refl _).drew).trans hz31).trans hz32).trans hz34).trans hz35).trans hz36) HC7_7.out)
          have cf268 := blk3 (Ext.block (((((((Ext.refl _).drew).trans hz31).trans hz32).trans hz34).trans hz35).trans hz36) HB9.out)
          go_wp2_with fail
          refine HK.out _ _ hz36 ?_
          clear HK K
          refine blkStep (fun K HK => ?_)
          simp only [PK]
          go_wp2_with fail
          refine HK.out _ _ ?_
          clear HK K
          refine blkStep (fun K HK => ?_)
          simp only [PK]
          go_wp2_with fail
          refine HK.out _ _ ?_
          clear HK K
          refine doneStep (by kernel_rfl) ?_
          go_wp2_with fail
          go_ret
          exact ⟨rfl, ((((((hq7.trans ((Ext.refl _).drew)).trans hz31).trans hz32).trans hz34).trans hz35).trans hz36)⟩
         ·
          have hge2 := of_decide_eq_true hge
          clear hge
          have hge : (16 : Int) ≤ (m.length : Int) := by omega
          clear hge2
          refine blkStep (fun K HK => ?_)
          simp only [PK]
          go_wp2_with fail
          refine HK.out _ _ ?_
          clear HK K
          refine blkStep (fun K HK => ?_)
          simp only [PK]
          go_wp2_with fail
          refine HK.out _ _ ?_
          clear HK K
          refine blkStep (fun K HK => ?_)
          simp only [PK]
          go_wp2_with fail
          refine HK.out _ _ ?_
          clear HK K
          refine blkSkip [204, 205, 207, 208] (by kernel_rfl) ?_
          simp only [undefs, Act.put, List.setIfInBounds_toArray, List.set_cons_succ, List.set_cons_zero]
          refine oneSkip [206] (by kernel_rfl) ?_
          simp only [undefs, Act.put, List.setIfInBounds_toArray, List.set_cons_succ, List.set_cons_zero]
          refine oneSkip [209] (by kernel_rfl) ?_
          simp only [undefs, Act.put, List.setIfInBounds_toArray, List.set_cons_succ, List.set_cons_zero]
          refine blkSkip [210, 211] (by kernel_rfl) ?_
          simp only [undefs, Act.put, List.setIfInBounds_toArray, List.set_cons_succ, List.set_cons_zero]
          refine blkStep (fun K HK => ?_)
          simp only [PK]
          go_wp2_with fail
          refine HK.out _ _ ?_
          clear HK K
          refine doneStep (by kernel_rfl) ?_
          go_wp2_with fail
          go_ret
          exact ⟨rfl, ((((hq7.trans ((Ext.refl _).drew)).trans hz31).trans hz32).trans hz34)⟩
       ·
        have hz9 : o = z3 := (hkz rfl).symm
        subst hz9
        clear hkz
        go_wp2_with fail
        refine planStep (.blk [0, 1, 2, 3, 4, 5, 6, 7] (.one 8 (.blk [9, 10, 11, 12, 13, 14] (.blk [15, 16, 17] (.blk [18, 19, 20, 21, 22] (.one 23 (.blk [24, 25, 26, 27, 28] (.one 29 (.blk [30, 31] (.blk [32, 33, 34] (.blk [35, 36] (.blk [37, 38, 40, 41] (.one 39 (.one 42 (.blk [43, 44] (.blk [45, 46, 47] .done)))))))))))))))) [] (by kernel_rfl) (by kernel_rfl) ?_
        try clear cf205
        try clear cf206
        try clear cf207
        try clear cf208
        try clear cf209
        try clear cf210
        try clear cf211
        try clear cf212
        have cf269 := blk3 (Ext.block ((Ext.refl _).drew) HC7_1.out)
        have cf270 := blk1 (Ext.block ((Ext.refl _).drew) HC7_2.out)
        have cf271 := blk1 (Ext.block ((Ext.refl _).drew) HC7_3.out)
        have cf272 := blk3 (Ext.block ((Ext.refl _).drew) HC7_4.out)
        have cf273 := blk3 (Ext.block ((Ext.refl _).drew) HC7_5.out)
        have cf274 := blk3 (Ext.block ((Ext.refl _).drew) HC7_6.out)
        have cf275 := blk3 (Ext.block ((Ext.refl _).drew) HC7_7.out)
        have cf276 := blk3 (Ext.block ((Ext.refl _).drew) HB9.out)
        refine blkStep (fun K HK => ?_)
        simp only [PK]
        go_wp2_with fail
        refine HK.out _ _ ?_
        clear HK K
        refine oneStep (fun K HK => ?_)
        simp only [PK]
        go_wp2_with fail
        refine (i_ValidRevocation o _).mono ?_
        rintro e w37 ⟨rfl, hz37⟩
        try clear cf269
        try clear cf270
        try clear cf271
        try clear cf272
        try clear cf273
        try clear cf274
        try clear cf275
        try clear cf276
        have cf277 := blk3 (Ext.block (((Ext.refl _).drew).trans hz37) HC7_1.out)
        have cf278 := blk1 (Ext.block (((Ext.refl _).drew).trans hz37) HC7_2.out)
        have cf279 := blk1 (Ext.block (((Ext.refl _).drew).trans hz37) HC7_3.out)
        have cf280 := blk3 (Ext.block (((Ext.refl _).drew).trans hz37) HC7_4.out)
        have cf281 := blk3 (Ext.block (((Ext.refl _).drew).trans hz37) HC7_5.out)
        have cf282 := blk3 (Ext.block (((Ext.refl _).drew).trans hz37) HC7_6.out)
        have cf283 := blk3 (Ext.block (((Ext.refl _).drew).trans hz37) HC7_7.out)
        have cf284 := blk3 (Ext.block (((Ext.refl _).drew).trans hz37) HB9.out)
        go_wp2_with fail
        refine HK.out _ _ hz37 ?_
        clear HK K
        refine blkStep (fun K HK => ?_)
        simp only [PK]
        go_wp2_with fail
        refine HK.out _ _ ?_
        clear HK K
        refine blkStep (fun K HK => ?_)
        simp only [PK]
        go_wp2_with fail
        refine HK.out _ _ ?_
        clear HK K
        refine blkStep (fun K HK => ?_)
        simp only [PK]
        go_wp2_with fail
        refine HK.out _ _ ?_
        clear HK K
        refine oneStep (fun K HK => ?_)
        simp only [PK]
        go_wp2_with fail
        refine (i_AddRevocation m _ x _ (rm.ext (((Ext.refl _).drew).trans hz37)) (by omega)).mono ?_
        rintro e w38 ⟨vF1, rfl, OF1, hz38⟩
        have rF1 := OwnF.rd (hf := Revc.flen) OF1
        clear OF1
        obtain ⟨o_F1, c_F1, rfl, _⟩ := rF1.shape
        try clear cf277
        try clear cf278
        try clear cf279
        try clear cf280
        try clear cf281
        try clear cf282
        try clear cf283
        try clear cf284
        have cf285 := blk3 (Ext.block ((((Ext.refl _).drew).trans hz37).trans hz38) HC7_1.out)
        have cf286 := blk1 (Ext.block ((((Ext.refl _).drew).trans hz37).trans hz38) HC7_2.out)
        have cf287 := blk1 (Ext.block ((((Ext.refl _).drew).trans hz37).trans hz38) HC7_3.out)
        have cf288 := blk3 (Ext.block ((((Ext.refl _).drew).trans hz37).trans hz38) HC7_4.out)
        have cf289 := blk3 (Ext.block ((((Ext.refl _).drew).trans hz37).trans hz38) HC7_5.out)
        have cf290 := blk3 (Ext.block ((((Ext.refl _).drew).trans hz37).trans hz38) HC7_6.out)
        have cf291 := blk3 (Ext.block ((((Ext.refl _).drew).trans hz37).trans hz38) HC7_7.out)
        have cf292 := blk3 (Ext.block ((((Ext.refl _).drew).trans hz37).trans hz38) HB9.out)
        go_wp2_with fail
        refine HK.out _ _ hz38 ?_
        clear HK K
        cases hvx : validRev x
        ·
         refine blkStep (fun K HK => ?_)
         simp only [PK]
         go_wp2_with fail
         refine HK.out _ _ ?_
         clear HK K
         refine oneStep (fun K HK => ?_)
         simp only [PK]
         go_wp2_with fail
         refine (i_ValidRevocation x _).mono ?_
         rintro e w39 ⟨rfl, hz39⟩
         rw [hvx]
         try clear cf285
         try clear cf286
         try clear cf287
         try clear cf288
         try clear cf289
         try clear cf290
         try clear cf291
         try clear cf292
         have cf293 := blk3 (Ext.block (((((Ext.refl _).drew).trans hz37).trans hz38).trans hz39) HC7_1.out)
         have cf294 := blk1 (Ext.block (((((Ext.refl _).drew).trans hz37).trans hz38).trans hz39) HC7_2.out)
         have cf295 := blk1 (Ext.block (((((Ext.refl _).drew).trans hz37).trans hz38).trans hz39) HC7_3.out)
         have cf296 := blk3 (Ext.block (((((Ext.refl _).drew).trans hz37).trans hz38).trans hz39) HC7_4.out)
         have cf297 := blk3 (Ext.block (((((Ext.refl _).drew).trans hz37).trans hz38).trans hz39) HC7_5.out)
         have cf298 := blk3 (Ext.block (((((Ext.refl _).drew).trans hz37).trans hz38).trans hz39) HC7_6.out)
         have cf299 := blk3 (Ext.block (((((Ext.refl _).drew).trans hz37).trans hz38).trans hz39) HC7_7.out)
         have cf300 := blk3 (Ext.block (((((Ext.refl _).drew).trans hz37).trans hz38).trans hz39) HB9.out)
         go_wp2_with fail
         refine HK.out _ _ hz39 ?_
         clear HK K
         refine blkStep (fun K HK => ?_)
         simp only [PK]
         go_wp2_with fail
         refine HK.out _ _ ?_
         clear HK K
         refine blkSkip [199, 200, 201] (by kernel_rfl) ?_
         simp only [undefs, Act.put, List.setIfInBounds_toArray, List.set_cons_succ, List.set_cons_zero]
         refine blkStep (fun K HK => ?_)
         simp only [PK]
         go_wp2_with fail
         refine HK.out _ _ ?_
         clear HK K
         refine blkSkip [204, 205, 207, 208] (by kernel_rfl) ?_
         simp only [undefs, Act.put, List.setIfInBounds_toArray, List.set_cons_succ, List.set_cons_zero]
         refine oneSkip [206] (by kernel_rfl) ?_
         simp only [undefs, Act.put, List.setIfInBounds_toArray, List.set_cons_succ, List.set_cons_zero]
         refine oneSkip [209] (by kernel_rfl) ?_
         simp only [undefs, Act.put, List.setIfInBounds_toArray, List.set_cons_succ, List.set_cons_zero]
         refine blkSkip [210, 211] (by kernel_rfl) ?_
         simp only [undefs, Act.put, List.setIfInBounds_toArray, List.set_cons_succ, List.set_cons_zero]
         refine blkStep (fun K HK => ?_)
         simp only [PK]
         go_wp2_with fail
         refine HK.out _ _ ?_
         clear HK K
         refine doneStep (by kernel_rfl) ?_
         go_wp2_with fail
         go_ret
         exact ⟨rfl, ((((hq7.trans ((Ext.refl _).drew)).trans hz37).trans hz38).trans hz39)⟩
        ·
         refine blkStep (fun K HK => ?_)
         simp only [PK]
         go_wp2_with fail
         refine HK.out _ _ ?_
         clear HK K
         refine oneStep (fun K HK => ?_)
         simp only [PK]
         go_wp2_with fail
         refine (i_ValidRevocation x _).mono ?_
         rintro e w40 ⟨rfl, hz40⟩
         rw [hvx]
         try clear cf285
         try clear cf286
         try clear cf287
         try clear cf288
         try clear cf289
         try clear cf290
         try clear cf291
         try clear cf292
         have cf301 := blk3 (Ext.block (((((Ext.refl _).drew).trans hz37).trans hz38).trans hz40) HC7_1.out)
         have cf302 := blk1 (Ext.block (((((Ext.refl _).drew).trans hz37).trans hz38).trans hz40) HC7_2.out)
         have cf303 := blk1 (Ext.block (((((Ext.refl _).drew).trans hz37).trans hz38).trans hz40) HC7_3.out)
         have cf304 := blk3 (Ext.block (((((Ext.refl _).drew).trans hz37).trans hz38).trans hz40) HC7_4.out)
         have cf305 := blk3 (Ext.block (((((Ext.refl _).drew).trans hz37).trans hz38).trans hz40) HC7_5.out)
         have cf306 := blk3 (Ext.block (((((Ext.refl _).drew).trans hz37).trans hz38).trans hz40) HC7_6.out)
         have cf307 := blk3 (Ext.block (((((Ext.refl _).drew).trans hz37).trans hz38).trans hz40) HC7_7.out)
         have cf308 := blk3 (Ext.block (((((Ext.refl _).drew).trans hz37).trans hz38).trans hz40) HB9.out)
         go_wp2_with fail
         refine HK.out _ _ hz40 ?_
         clear HK K
         cases hge : decide (16 ≤ m.length)
         ·
          have hlt16 : m.length < 16 := by have h1 := of_decide_eq_false hge; omega
          clear hge
          have hge : ¬ (16 : Int) ≤ (m.length : Int) := by omega
          have hac := HACT.out hvx hlt16
          have hac2 : (0 : Int) < ((activeRevs x.till (addRev m x)).length : Int) := by omega
          clear hlt16
          refine blkStep (fun K HK => ?_)
          simp only [PK]
          go_wp2_with fail
          refine HK.out _ _ ?_
          clear HK K
          refine blkStep (fun K HK => ?_)
          simp only [PK]
          go_wp2_with fail
          refine HK.out _ _ ?_
          clear HK K
          refine blkStep (fun K HK => ?_)
          simp only [PK]
          go_wp2_with fail
          refine HK.out _ _ ?_
          clear HK K
          refine blkStep (fun K HK => ?_)
          simp only [PK]
          go_wp2_with fail
          refine HK.out _ _ ?_
          clear HK K
          refine oneStep (fun K HK => ?_)
          simp only [PK]
          go_wp2_with fail
          refine (i_AddRevocation m _ x _ (rm.ext (((((Ext.refl _).drew).trans hz37).trans hz38).trans hz40)) (by omega)).mono ?_
          rintro e w41 ⟨vF2, rfl, OF2, hz41⟩
          have rF2 := OwnF.rd (hf := Revc.flen) OF2
          clear OF2
          obtain ⟨o_F2, c_F2, rfl, _⟩ := rF2.shape
          try clear cf301
          try clear cf302
          try clear cf303
          try clear cf304
          try clear cf305
          try clear cf306
          try clear cf307
          try clear cf308
          have cf309 := blk3 (Ext.block ((((((Ext.refl _).drew).trans hz37).trans hz38).trans hz40).trans hz41) HC7_1.out)
          have cf310 := blk1 (Ext.block ((((((Ext.refl _).drew).trans hz37).trans hz38).trans hz40).trans hz41) HC7_2.out)
          have cf311 := blk1 (Ext.block ((((((Ext.refl _).drew).trans hz37).trans hz38).trans hz40).trans hz41) HC7_3.out)
          have cf312 := blk3 (Ext.block ((((((Ext.refl _).drew).trans hz37).trans hz38).trans hz40).trans hz41) HC7_4.out)
          have cf313 := blk3 (Ext.block ((((((Ext.refl _).drew).trans hz37).trans hz38).trans hz40).trans hz41) HC7_5.out)
          have cf314 := blk3 (Ext.block ((((((Ext.refl _).drew).trans hz37).trans hz38).trans hz40).trans hz41) HC7_6.out)
          have cf315 := blk3 (Ext.block ((((((Ext.refl _).drew).trans hz37).trans hz38).trans hz40).trans hz41) HC7_7.out)
          have cf316 := blk3 (Ext.block ((((((Ext.refl _).drew).trans hz37).trans hz38).trans hz40).trans hz41) HB9.out)
          go_wp2_with fail
          refine HK.out _ _ hz41 ?_
          clear HK K
          refine oneStep (fun K HK => ?_)
          simp only [PK]
          go_wp2_with fail
          refine (i_ActiveRevocations (addRev m x) _ x.till _ (rF2.ext (Ext.refl _)) (by omega)).mono ?_
          rintro e w42 ⟨vF3, rfl, OF3, hz42⟩
          have rF3 := OwnF.rd (hf := Revc.flen) OF3
          clear OF3
          obtain ⟨o_F3, c_F3, rfl, _⟩ := rF3.shape
          try clear cf309
          try clear cf310
          try clear cf311
          try clear cf312
          try clear cf313
          try clear cf314
          try clear cf315
          try clear cf316
          have cf317 := blk3 (Ext.block (((((((Ext.refl _).drew).trans hz37).trans hz38).trans hz40).trans hz41).trans hz42) HC7_1.out)
          have cf318 := blk1 (Ext.block (((((((Ext.refl _).drew).trans hz37).trans hz38).trans hz40).trans hz41).trans hz42) HC7_2.out)
          have cf319 := blk1 (Ext.block (((((((Ext.refl _).drew).trans hz37).trans hz38).trans hz40).trans hz41).trans hz42) HC7_3.out)
          have cf320 := blk3 (Ext.block (((((((Ext.refl _).drew).trans hz37).trans hz38).trans hz40).trans hz41).trans hz42) HC7_4.out)
          have cf321 := blk3 (Ext.block (((((((Ext.refl _).drew).trans hz37).trans hz38).trans hz40).trans hz41).trans hz42) HC7_5.out)
          have cf322 := blk3 (Ext.block (((((((Ext.refl _).drew).trans hz37).trans hz38).trans hz40).trans hz41).trans hz42) HC7_6.out)
          have cf323 := blk3 (Ext.block (((((((Ext.refl _).drew).trans hz37).trans hz38).trans hz40).trans hz41).trans hz42) HC7_7.out)
          have cf324 := blk3 (Ext.block (((((((Ext.refl _).drew).trans hz37).trans hz38).trans hz40).trans hz41).trans hz42) HB9.out)
          go_wp2_with fail
          refine HK.out _ _ hz42 ?_
          clear HK K
          refine blkStep (fun K HK => ?_)
          simp only [PK]
          go_wp2_with fail
          refine HK.out _ _ ?_
          clear HK K
          refine blkStep (fun K HK => ?_)
          simp only [PK]
          go_wp2_with fail
          refine HK.out _ _ ?_
          clear HK K
          refine doneStep (by kernel_rfl) ?_
          go_wp2_with fail
          go_ret
          exact ⟨rfl, ((((((hq7.trans ((Ext.refl _).drew)).trans hz37).trans hz38).trans hz40).trans hz41).trans hz42)⟩
         ·
          have hge2 := of_decide_eq_true hge
          clear hge
          have hge : (16 : Int) ≤ (m.length : Int) := by omega
          clear hge2
          refine blkStep (fun K HK => ?_)
          simp only [PK]
          go_wp2_with fail
          refine HK.out _ _ ?_
          clear HK K
          refine blkStep (fun K HK => ?_)
          simp only [PK]
          go_wp2_with fail
          refine HK.out _ _ ?_
          clear HK K
          refine blkStep (fun K HK => ?_)
          simp only [PK]
          go_wp2_with fail
          refine HK.out _ _ ?_
          clear HK K
          refine blkSkip [204, 205, 207, 208] (by kernel_rfl) ?_
          simp only [undefs, Act.put, List.setIfInBounds_toArray, List.set_cons_succ, List.set_cons_zero]
          refine oneSkip [206] (by kernel_rfl) ?_
          simp only [undefs, Act.put, List.setIfInBounds_toArray, List.set_cons_succ, List.set_cons_zero]
          refine oneSkip [209] (by kernel_rfl) ?_
          simp only [undefs, Act.put, List.setIfInBounds_toArray, List.set_cons_succ, List.set_cons_zero]
          refine blkSkip [210, 211] (by kernel_rfl) ?_
          simp only [undefs, Act.put, List.setIfInBounds_toArray, List.set_cons_succ, List.set_cons_zero]
          refine blkStep (fun K HK => ?_)
          simp only [PK]
          go_wp2_with fail
          refine HK.out _ _ ?_
          clear HK K
          refine doneStep (by kernel_rfl) ?_
          go_wp2_with fail
          go_ret
          exact ⟨rfl, ((((hq7.trans ((Ext.refl _).drew)).trans hz37).trans hz38).trans hz40)⟩

end Go.Proofs.YtcpfmhgfaliemaaGreat
