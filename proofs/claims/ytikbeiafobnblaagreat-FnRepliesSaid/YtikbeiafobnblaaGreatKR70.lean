/- What these laws need: FnReplies: The walk of the law on replies: a reply returns over the same ASes to the sender. -/
import Derived.Test.YtikbeiafobnblaaGreatKR24
import Derived.Test.YtikbeiafobnblaaGreatKR34
import Derived.Test.YtikbeiafobnblaaGreatKR68
import Derived.Test.YtikbeiafobnblaaGreatKR69
namespace Go.Proofs.YtikbeiafobnblaaGreat
section
open Go.ChangeShapes Go.WideShapes Go.ChangeAt Go.RowKit Go.Deep
theorem blkSkipR {P : Program} {ops : Array Oper} {Rq : Nat → Bool} {E : Act → World → Prop} {l : List Nat} {rest : Sch} {a : Act} {w : World} (ds : List Tmp) (hb : skipB ops (pick ops l) ds a = true) (h : Shut (rest.wp P ops Rq E (undefs ds a) w)) : Shut ((Sch.blk l rest).wp P ops Rq E a w) :=
 ⟨wpList_skips _ ds a hb h.out⟩
set_option maxRecDepth 100000 in
set_option maxHeartbeats 20000000 in
theorem l_FnReplies (code : List Int) (cv : Value) (w : World) (hr : RdS Rep.byte w cv code) (hu : ∀ x ∈ code, U8 x) :
  Calls Tryz.prog 5 #[cv] w fun e w' => e = .returned (.bool true) ∧ Ext w w' := by
 obtain ⟨co, cc, rfl, _⟩ := hr.shape
 by_cases hbig : 1048576 < code.length
 ·
  have hb1 : decide (1048576 < code.length) = true := by simpa using hbig
  have HB1 := Lib.hid hb1; clear hb1
  go_enter Tryz.func5, Tryz.ntmps5
  go_wp2_with fail
  refine (l_big code _ _ hr).mono ?_
  rintro e _ ⟨rfl, rfl⟩
  rw [HB1.out]
  go_wp2_with fail
  go_ret
  exact ⟨rfl, Ext.refl _⟩
 have hb1 : decide (1048576 < code.length) = false := by simpa using hbig
 have hl : code.length ≤ 1048576 := by omega
 have HB1 := Lib.hid hb1; clear hb1 hbig
 go_enter Tryz.func5, Tryz.ntmps5
 go_wp2_with fail
 refine (l_big code _ _ hr).mono ?_
 rintro e _ ⟨rfl, rfl⟩
 rw [HB1.out]
 go_wp2_with fail
 refine (s_DrawReply code _ _ (hr.ext (Ext.refl _)) hu hl).mono ?_
 rintro e w1 ⟨u0, u1, vy, x, ka, sb, pl, rfl, hxb, hpl, R0, R1, RY, hz1⟩
 have r0 := Own.rd _ R0
 have r1 := Own.rd _ R1
 have rY := Own.rd _ RY
 clear R0 R1 RY
 obtain ⟨o_0, c_0, rfl, _⟩ := r0.shape
 obtain ⟨o_1, c_1, rfl, _⟩ := r1.shape
 obtain ⟨o_y, c_y, rfl, _⟩ := rY.shape
 have hxs := hxb.size
 have hx1 : Ext w1 (w1.alloc (.cells #[.int .i64 x.kind, .int .i64 x.src, .int .i64 x.dst, .slice o_0 x.path.parts.length c_0, .int .i64 x.pi, .int .i64 x.hi, .int .i64 x.beta, .int .i64 x.rid, .int .i64 x.seq, .slice o_1 x.pay.length c_1] 28)) := (Ext.refl _).alloc _
 have HB1 := Lib.hid (blk_new w1 (.cells #[.int .i64 x.kind, .int .i64 x.src, .int .i64 x.dst, .slice o_0 x.path.parts.length c_0, .int .i64 x.pi, .int .i64 x.hi, .int .i64 x.beta, .int .i64 x.rid, .int .i64 x.seq, .slice o_1 x.pay.length c_1] 28))
 have cf1 := blk10 HB1.out
 go_wp2_with fail
 refine (s_DrawPath code _ _ (hr.ext (hz1.trans hx1)) hu hl).mono ?_
 rintro e w2 ⟨v1, v2, vp, t, p, rfl, TK, PDr, rA, rL, rP, hz2⟩
 obtain ⟨o1, c1, rfl, _⟩ := rA.shape
 obtain ⟨o2, c2, rfl, _⟩ := rL.shape
 obtain ⟨o_p, c_p, rfl, _⟩ := rP.shape
 have hps := PDr.size
 have hts : t.size ≤ 1048576 := by have h1 := TK.n8; have h2 := TK.few; unfold Topo.size; omega
 have hx2 := ext2 w2 (.cells #[.slice o1 t.ases.length c1, .slice o2 t.links.length c2] 33) (.cells #[.slice o_p p.parts.length c_p] 26)
 have HB2 := Lib.hid (al2 w2 (.cells #[.slice o1 t.ases.length c1, .slice o2 t.links.length c2] 33) (.cells #[.slice o_p p.parts.length c_p] 26))
 try clear cf1
 have cf2 := blk10 (Ext.block (hz2.trans hx2) HB1.out)
 have cf3 := blk2 HB2.out.1
 have cf4 := blk1 HB2.out.2
 go_wp2_with fail
 refine planStep (.blk [0, 1, 2, 3, 5, 6, 7, 8] (.one 4 (.one 9 (.one 10 (.blk [11] .done))))) [] (by kernel_rfl) (by kernel_rfl) ?_
 try clear cf2
 try clear cf3
 try clear cf4
 have cf5 := blk10 (Ext.block ((hz2.trans hx2).trans ((Ext.refl _).drew)) HB1.out)
 have cf6 := blk2 (Ext.block ((Ext.refl _).drew) HB2.out.1)
 have cf7 := blk1 (Ext.block ((Ext.refl _).drew) HB2.out.2)
 refine blkStep (fun K HK => ?_)
 simp only [PK]
 go_wp2_with fail
 refine HK.out _ _ ?_
 clear HK K
 refine oneStep (fun K HK => ?_)
 simp only [PK]
 go_wp2_with fail
 refine (i_Reply x _ _ ka sb pl _ _ (r0.ext (((hx1.trans hz2).trans hx2).trans ((Ext.refl _).drew))) (r1.ext (((hx1.trans hz2).trans hx2).trans ((Ext.refl _).drew))) (rY.ext (((hx1.trans hz2).trans hx2).trans ((Ext.refl _).drew))) (by omega) (by omega)).mono ?_
 rintro e w3 ⟨a0, a1, rfl, OX, hz3⟩
 obtain ⟨z, hz⟩ : ∃ z, z = reply x ka sb pl := ⟨_, rfl⟩
 rw [← hz] at OX ⊢
 have hzl : z.path.parts.length ≤ 1048576 := by rw [hz]; show (revPath x.path).parts.length ≤ 1048576; have h1 := rev_len4 hxb.parts; omega
 have HZ := Lib.hid hz
 clear hz
 have ra0 := Pkt.own_rd0 OX
 have ra1 := Pkt.own_rd1 OX
 clear OX
 obtain ⟨qa0, da0, rfl, _⟩ := ra0.shape
 obtain ⟨qa1, da1, rfl, _⟩ := ra1.shape
 try clear cf5
 try clear cf6
 try clear cf7
 have cf8 := blk10 (Ext.block (((hz2.trans hx2).trans ((Ext.refl _).drew)).trans hz3) HB1.out)
 have cf9 := blk2 (Ext.block (((Ext.refl _).drew).trans hz3) HB2.out.1)
 have cf10 := blk1 (Ext.block (((Ext.refl _).drew).trans hz3) HB2.out.2)
 go_wp2_with fail
 refine HK.out _ _ hz3 ?_
 clear HK K
 refine oneStep (fun K HK => ?_)
 simp only [PK]
 go_wp2_with fail
 refine (s_Reply x _ _ ka sb pl _ _ (r0.ext ((((hx1.trans hz2).trans hx2).trans ((Ext.refl _).drew)).trans hz3)) (r1.ext ((((hx1.trans hz2).trans hx2).trans ((Ext.refl _).drew)).trans hz3)) (rY.ext ((((hx1.trans hz2).trans hx2).trans ((Ext.refl _).drew)).trans hz3)) (by omega) (by omega)).mono ?_
 rintro e w4 ⟨a2, a3, rfl, OX, hz4⟩
 rw [← HZ.out] at OX ⊢
 have rb0 := Pkt.own_rd0 OX
 have rb1 := Pkt.own_rd1 OX
 clear OX
 obtain ⟨qb0, db0, rfl, _⟩ := rb0.shape
 obtain ⟨qb1, db1, rfl, _⟩ := rb1.shape
 try clear cf8
 try clear cf9
 try clear cf10
 have cf11 := blk10 (Ext.block ((((hz2.trans hx2).trans ((Ext.refl _).drew)).trans hz3).trans hz4) HB1.out)
 have cf12 := blk2 (Ext.block ((((Ext.refl _).drew).trans hz3).trans hz4) HB2.out.1)
 have cf13 := blk1 (Ext.block ((((Ext.refl _).drew).trans hz3).trans hz4) HB2.out.2)
 go_wp2_with fail
 refine HK.out _ _ hz4 ?_
 clear HK K
 refine oneStep (fun K HK => ?_)
 simp only [PK]
 go_wp2_with fail
 refine (l_samePacketT z _ _ _ _ _ (ra0.ext hz4) (ra1.ext hz4) (rb0.ext (Ext.refl _)) (rb1.ext (Ext.refl _)) hzl).mono ?_
 rintro e w5 ⟨rfl, hz5⟩
 try clear cf11
 try clear cf12
 try clear cf13
 have cf14 := blk10 (Ext.block (((((hz2.trans hx2).trans ((Ext.refl _).drew)).trans hz3).trans hz4).trans hz5) HB1.out)
 have cf15 := blk2 (Ext.block (((((Ext.refl _).drew).trans hz3).trans hz4).trans hz5) HB2.out.1)
 have cf16 := blk1 (Ext.block (((((Ext.refl _).drew).trans hz3).trans hz4).trans hz5) HB2.out.2)
 go_wp2_with fail
 refine HK.out _ _ hz5 ?_
 clear HK K
 refine blkStep (fun K HK => ?_)
 simp only [PK]
 go_wp2_with fail
 refine HK.out _ _ ?_
 clear HK K
 refine doneStep (by kernel_rfl) ?_
 try clear ra0 ra1 rb0 rb1
 try clear hzl
 go_upto_region 7 with (fail)
 go_cut [9] (fun v wc => ∃ (b : Nat) (tr1 : Trc) (b10 b11 b12 : Option Addr) (d10 d11 d12 : Nat), v = .pointer (some ⟨b, 0, none⟩) ∧ Hid (tr1 = traverse t 50 [] (newPkt 1 p 0 1 [7])) ∧ wc.heap[b]? = some (.cells #[.int .i64 tr1.code, .slice b10 tr1.steps.length d10, .int .i64 tr1.pkt.kind, .int .i64 tr1.pkt.src, .int .i64 tr1.pkt.dst, .slice b11 tr1.pkt.path.parts.length d11, .int .i64 tr1.pkt.pi, .int .i64 tr1.pkt.hi, .int .i64 tr1.pkt.beta, .int .i64 tr1.pkt.rid, .int .i64 tr1.pkt.seq, .slice b12 tr1.pkt.pay.length d12] 76) ∧ RdS Step.rep wc (.slice b10 tr1.steps.length d10) tr1.steps ∧ RdS Part.rep wc (.slice b11 tr1.pkt.path.parts.length d11) tr1.pkt.path.parts ∧ RdS Rep.byte wc (.slice b12 tr1.pkt.pay.length d12) tr1.pkt.pay ∧ Ext w5 wc)
 case first =>
  have hl2 : (newPkt 1 p 0 1 [7]).size ≤ 1048576 := by rw [newPkt_size]; simp; omega
  refine planStep (.blk [0, 2] (.tri 1 3 6 (.two 3 6 (.two 4 6 (.two 5 6 (.one 6 (.one 7 .done)) (.one 5 (.one 7 .done))) (.one 4 (.one 5 (.one 7 .done)))) (.one 3 (.one 4 (.one 5 (.one 7 .done))))) (.tri 1 4 6 (.two 4 6 (.two 5 6 (.one 6 (.one 7 .done)) (.one 5 (.one 7 .done))) (.one 4 (.one 5 (.one 7 .done)))) (.two 1 6 (.two 5 6 (.one 6 (.one 7 .done)) (.one 5 (.one 7 .done))) (.one 1 (.one 5 (.one 7 .done)))) (.two 1 4 (.one 4 (.one 5 (.one 7 .done))) (.one 1 (.one 5 (.one 7 .done))))) (.two 1 3 (.one 3 (.one 4 (.one 5 (.one 7 .done)))) (.two 1 4 (.one 4 (.one 5 (.one 7 .done))) (.one 1 (.one 5 (.one 7 .done))))))) [7] (by kernel_rfl) (by kernel_rfl) ?_
  have hxd := (Ext.refl w5).drew
  obtain ⟨wd3, hnw⟩ : ∃ wn, wn = w5.drew := ⟨_, rfl⟩
  rw [← hnw] at hxd ⊢
  clear hnw
  have cd0 := blk10 (Ext.block ((((((hz2.trans hx2).trans ((Ext.refl _).drew)).trans hz3).trans hz4).trans hz5).trans hxd) HB1.out)
  have cd1 := blk2 (Ext.block ((((((Ext.refl _).drew).trans hz3).trans hz4).trans hz5).trans hxd) HB2.out.1)
  have cd2 := blk1 (Ext.block ((((((Ext.refl _).drew).trans hz3).trans hz4).trans hz5).trans hxd) HB2.out.2)
  refine blkStep (fun K HK => ?_)
  simp only [PK]
  go_wp2_with fail
  refine HK.out _ _ ?_
  clear HK K cd0 cd1 cd2
  refine triStep ?_ ?_ ?_
  ·
   have rN1 := OwnF.rd (hf := intFlen) (OwnF.empty intF 1 0 3 wd3 (Nat.zero_le _))
   have hxN1 : Ext wd3 (wd3.alloc (.cells #[] 3)) := (Ext.refl _).alloc _
   refine oneStep (fun K HK => ?_)
   simp only [PK]
   go_wp2_with fail
   refine HK.out _ _ hxN1 ?_
   clear HK K
   generalize wd3.alloc (.cells #[] 3) = wa1 at rN1 hxN1 ⊢
   refine twoStep ?_ ?_
   ·
    have rN3 : RdS Rep.byte (wa1.alloc (.cells #[.int .u8 7] 5)) (.slice (some ⟨wa1.heap.size, 0, none⟩) 1 1) [7] := OwnF.rd (hf := byteFlen) (OwnF.lit (f := byteF) (n := 1) byteFlen 0 5 wa1 [7] (Nat.zero_le _) (by simp [maxLen]))
    have hxN3 : Ext wa1 (wa1.alloc (.cells #[.int .u8 7] 5)) := (Ext.refl _).alloc _
    refine oneStep (fun K HK => ?_)
    simp only [PK]
    go_wp2_with fail
    refine HK.out _ _ hxN3 ?_
    clear HK K
    generalize wa1.alloc (.cells #[.int .u8 7] 5) = wa3 at rN3 hxN3 ⊢
    refine twoStep ?_ ?_
    ·
     refine oneStep (fun K HK => ?_)
     simp only [PK]
     go_wp2_with fail
     refine (i_NewPacket 1 p _ 0 1 [7] _ _ (rP.ext (((((hx2.trans ((Ext.refl _).drew)).trans hz3).trans hz4).trans hz5).trans ((hxd.trans hxN1).trans hxN3))) (rN3.ext (Ext.refl _)) (by omega) (by simp)).mono ?_
     rintro e wk1 ⟨u0, u1, rfl, ou, hk1x⟩
     go_wp2_with fail
     refine HK.out _ _ hk1x ?_
     clear HK K
     refine twoStep ?_ ?_
     ·
      refine oneStep (fun K HK => ?_)
      simp only [PK]
      go_wp2_with fail
      refine (i_Traverse t _ _ 50 [] _ (newPkt 1 p 0 1 [7]) _ _ _ (rA.ext (((((hx2.trans ((Ext.refl _).drew)).trans hz3).trans hz4).trans hz5).trans (((hxd.trans hxN1).trans hxN3).trans hk1x))) (rL.ext (((((hx2.trans ((Ext.refl _).drew)).trans hz3).trans hz4).trans hz5).trans (((hxd.trans hxN1).trans hxN3).trans hk1x))) (rN1.ext (hxN3.trans hk1x)) ((Pkt.own_rd0 ou).ext (Ext.refl _)) ((Pkt.own_rd1 ou).ext (Ext.refl _)) hts hl2).mono ?_
      rintro e wk2 ⟨x0, x1, x2, rfl, oo, hk2x⟩
      obtain ⟨tr, htr⟩ : ∃ tr, tr = traverse t 50 [] (newPkt 1 p 0 1 [7]) := ⟨_, rfl⟩
      rw [← htr] at oo ⊢
      have HTR := Lib.hid htr; clear htr
      obtain ⟨b0, d0, rfl, _⟩ := (Trc.own_rd0 oo).shape
      obtain ⟨b1, d1, rfl, _⟩ := (Trc.own_rd1 oo).shape
      obtain ⟨b2, d2, rfl, _⟩ := (Trc.own_rd2 oo).shape
      go_wp2_with fail
      refine HK.out _ _ hk2x ?_
      clear HK K
      refine oneStep (fun K HK => ?_)
      simp only [PK]
      go_wp2_with fail
      refine HK.out _ _ ((Ext.refl _).alloc _) ?_
      clear HK K
      refine badStep (by kernel_rfl) (fun K HK => ?_)
      simp only [PK]
      go_wp2_with fail
      refine HK.out _ _ ?_
      clear HK K
      refine doneStep (by kernel_rfl) ?_
      go_wp2_with fail
      go_meet
      exact ⟨_, tr, b0, b1, b2, d0, d1, d2, rfl, HTR, blk_new _ _, (Trc.own_rd0 oo).ext ((Ext.refl _).alloc _), (Trc.own_rd1 oo).ext ((Ext.refl _).alloc _), (Trc.own_rd2 oo).ext ((Ext.refl _).alloc _), ((((hxd.trans hxN1).trans hxN3).trans hk1x).trans hk2x).alloc _⟩
     ·
      have hba := blk_new wk1 (.cells #[.int .i64 0, .slice none 0 0, .int .i64 0, .int .i64 0, .int .i64 0, .slice none 0 0, .int .i64 0, .int .i64 0, .int .i64 0, .int .i64 0, .int .i64 0, .slice none 0 0] 76)
      have HBA := Lib.hid hba; clear hba
      have hxN6 : Ext wk1 (wk1.alloc (.cells #[.int .i64 0, .slice none 0 0, .int .i64 0, .int .i64 0, .int .i64 0, .slice none 0 0, .int .i64 0, .int .i64 0, .int .i64 0, .int .i64 0, .int .i64 0, .slice none 0 0] 76)) := (Ext.refl _).alloc _
      refine oneStep (fun K HK => ?_)
      simp only [PK]
      go_wp2_with fail
      refine HK.out _ _ hxN6 ?_
      clear HK K
      generalize wk1.alloc (.cells #[.int .i64 0, .slice none 0 0, .int .i64 0, .int .i64 0, .int .i64 0, .slice none 0 0, .int .i64 0, .int .i64 0, .int .i64 0, .int .i64 0, .int .i64 0, .slice none 0 0] 76) = wa6 at HBA hxN6 ⊢
      refine oneStep (fun K HK => ?_)
      simp only [PK]
      go_wp2_with fail
      refine (i_Traverse t _ _ 50 [] _ (newPkt 1 p 0 1 [7]) _ _ _ (rA.ext (((((hx2.trans ((Ext.refl _).drew)).trans hz3).trans hz4).trans hz5).trans ((((hxd.trans hxN1).trans hxN3).trans hk1x).trans hxN6))) (rL.ext (((((hx2.trans ((Ext.refl _).drew)).trans hz3).trans hz4).trans hz5).trans ((((hxd.trans hxN1).trans hxN3).trans hk1x).trans hxN6))) (rN1.ext ((hxN3.trans hk1x).trans hxN6)) ((Pkt.own_rd0 ou).ext hxN6) ((Pkt.own_rd1 ou).ext hxN6) hts hl2).mono ?_
      rintro e wk2 ⟨x0, x1, x2, rfl, oo, hk2x⟩
      obtain ⟨tr, htr⟩ : ∃ tr, tr = traverse t 50 [] (newPkt 1 p 0 1 [7]) := ⟨_, rfl⟩
      rw [← htr] at oo ⊢
      have HTR := Lib.hid htr; clear htr
      obtain ⟨b0, d0, rfl, _⟩ := (Trc.own_rd0 oo).shape
      obtain ⟨b1, d1, rfl, _⟩ := (Trc.own_rd1 oo).shape
      obtain ⟨b2, d2, rfl, _⟩ := (Trc.own_rd2 oo).shape
      go_wp2_with fail
      refine HK.out _ _ hk2x ?_
      clear HK K
      have hbs := Ext.block hk2x HBA.out
      have hcs := blk12 hbs
      have hfs0 := fr_of hbs 0
      have hfs1 := fr_of hbs 1
      have hfs2 := fr_of hbs 2
      have hfs3 := fr_of hbs 3
      have hfs4 := fr_of hbs 4
      have hfs5 := fr_of hbs 5
      have hfs6 := fr_of hbs 6
      have hfs7 := fr_of hbs 7
      have hfs8 := fr_of hbs 8
      have hfs9 := fr_of hbs 9
      have hfs10 := fr_of hbs 10
      have hfs11 := fr_of hbs 11
      have HBS := Lib.hid hbs; clear hbs
      refine badStep (by kernel_rfl) (fun K HK => ?_)
      simp only [PK]
      go_wp2_with fail
      refine HK.out _ _ ?_
      clear HK K
      refine doneStep (by kernel_rfl) ?_
      go_wp2_with fail
      go_meet
      obtain ⟨wv, hwv, hbv, hcv, hsv⟩ := vd_set HBS.out (.int .i64 tr.code) ( .slice b0 tr.steps.length d0) ( .int .i64 tr.pkt.kind) ( .int .i64 tr.pkt.src) ( .int .i64 tr.pkt.dst) ( .slice b1 tr.pkt.path.parts.length d1) ( .int .i64 tr.pkt.pi) ( .int .i64 tr.pkt.hi) ( .int .i64 tr.pkt.beta) ( .int .i64 tr.pkt.rid) ( .int .i64 tr.pkt.seq) ( .slice b2 tr.pkt.pay.length d2)
      rw [← hwv]
      have ok := Trc.own_kept (Trc.own_ext oo (Ext.refl _)) hcv (fun k hk (e : k = _) => absurd hk.1 (by rw [e]; exact Nat.not_le.2 (Nat.lt_of_lt_of_le (blk_lt HBA.out) (Ext.refl _).size)))
      exact ⟨_, tr, b0, b1, b2, d0, d1, d2, rfl, HTR, hbv, Trc.own_rd0 ok, Trc.own_rd1 ok, Trc.own_rd2 ok, (((((hxd.trans hxN1).trans hxN3).trans hk1x).trans hxN6).trans hk2x).chg1 hcv (((hxd.trans hxN1).trans hxN3).trans hk1x).size⟩
    ·
     have hba := blk_new wa3 (.cells #[.int .i64 0, .slice none 0 0, .int .i64 0, .int .i64 0, .int .i64 0, .slice none 0 0, .int .i64 0, .int .i64 0, .int .i64 0, .int .i64 0, .int .i64 0, .slice none 0 0] 76)
     have HBA := Lib.hid hba; clear hba
     have hxN6 : Ext wa3 (wa3.alloc (.cells #[.int .i64 0, .slice none 0 0, .int .i64 0, .int .i64 0, .int .i64 0, .slice none 0 0, .int .i64 0, .int .i64 0, .int .i64 0, .int .i64 0, .int .i64 0, .slice none 0 0] 76)) := (Ext.refl _).alloc _
     refine oneStep (fun K HK => ?_)
     simp only [PK]
     go_wp2_with fail
     refine HK.out _ _ hxN6 ?_
     clear HK K
     generalize wa3.alloc (.cells #[.int .i64 0, .slice none 0 0, .int .i64 0, .int .i64 0, .int .i64 0, .slice none 0 0, .int .i64 0, .int .i64 0, .int .i64 0, .int .i64 0, .int .i64 0, .slice none 0 0] 76) = wa6 at HBA hxN6 ⊢
     refine oneStep (fun K HK => ?_)
     simp only [PK]
     go_wp2_with fail
     refine (i_NewPacket 1 p _ 0 1 [7] _ _ (rP.ext (((((hx2.trans ((Ext.refl _).drew)).trans hz3).trans hz4).trans hz5).trans (((hxd.trans hxN1).trans hxN3).trans hxN6))) (rN3.ext hxN6) (by omega) (by simp)).mono ?_
     rintro e wk1 ⟨u0, u1, rfl, ou, hk1x⟩
     go_wp2_with fail
     refine HK.out _ _ hk1x ?_
     clear HK K
     refine oneStep (fun K HK => ?_)
     simp only [PK]
     go_wp2_with fail
     refine (i_Traverse t _ _ 50 [] _ (newPkt 1 p 0 1 [7]) _ _ _ (rA.ext (((((hx2.trans ((Ext.refl _).drew)).trans hz3).trans hz4).trans hz5).trans ((((hxd.trans hxN1).trans hxN3).trans hxN6).trans hk1x))) (rL.ext (((((hx2.trans ((Ext.refl _).drew)).trans hz3).trans hz4).trans hz5).trans ((((hxd.trans hxN1).trans hxN3).trans hxN6).trans hk1x))) (rN1.ext ((hxN3.trans hxN6).trans hk1x)) ((Pkt.own_rd0 ou).ext (Ext.refl _)) ((Pkt.own_rd1 ou).ext (Ext.refl _)) hts hl2).mono ?_
     rintro e wk2 ⟨x0, x1, x2, rfl, oo, hk2x⟩
     obtain ⟨tr, htr⟩ : ∃ tr, tr = traverse t 50 [] (newPkt 1 p 0 1 [7]) := ⟨_, rfl⟩
     rw [← htr] at oo ⊢
     have HTR := Lib.hid htr; clear htr
     obtain ⟨b0, d0, rfl, _⟩ := (Trc.own_rd0 oo).shape
     obtain ⟨b1, d1, rfl, _⟩ := (Trc.own_rd1 oo).shape
     obtain ⟨b2, d2, rfl, _⟩ := (Trc.own_rd2 oo).shape
     go_wp2_with fail
     refine HK.out _ _ hk2x ?_
     clear HK K
     have hbs := Ext.block (hk1x.trans hk2x) HBA.out
     have hcs := blk12 hbs
     have hfs0 := fr_of hbs 0
     have hfs1 := fr_of hbs 1
     have hfs2 := fr_of hbs 2
     have hfs3 := fr_of hbs 3
     have hfs4 := fr_of hbs 4
     have hfs5 := fr_of hbs 5
     have hfs6 := fr_of hbs 6
     have hfs7 := fr_of hbs 7
     have hfs8 := fr_of hbs 8
     have hfs9 := fr_of hbs 9
     have hfs10 := fr_of hbs 10
     have hfs11 := fr_of hbs 11
     have HBS := Lib.hid hbs; clear hbs
     refine badStep (by kernel_rfl) (fun K HK => ?_)
     simp only [PK]
     go_wp2_with fail
     refine HK.out _ _ ?_
     clear HK K
     refine doneStep (by kernel_rfl) ?_
     go_wp2_with fail
     go_meet
     obtain ⟨wv, hwv, hbv, hcv, hsv⟩ := vd_set HBS.out (.int .i64 tr.code) ( .slice b0 tr.steps.length d0) ( .int .i64 tr.pkt.kind) ( .int .i64 tr.pkt.src) ( .int .i64 tr.pkt.dst) ( .slice b1 tr.pkt.path.parts.length d1) ( .int .i64 tr.pkt.pi) ( .int .i64 tr.pkt.hi) ( .int .i64 tr.pkt.beta) ( .int .i64 tr.pkt.rid) ( .int .i64 tr.pkt.seq) ( .slice b2 tr.pkt.pay.length d2)
     rw [← hwv]
     have ok := Trc.own_kept (Trc.own_ext oo (Ext.refl _)) hcv (fun k hk (e : k = _) => absurd hk.1 (by rw [e]; exact Nat.not_le.2 (Nat.lt_of_lt_of_le (blk_lt HBA.out) hk1x.size)))
     exact ⟨_, tr, b0, b1, b2, d0, d1, d2, rfl, HTR, hbv, Trc.own_rd0 ok, Trc.own_rd1 ok, Trc.own_rd2 ok, (((((hxd.trans hxN1).trans hxN3).trans hxN6).trans hk1x).trans hk2x).chg1 hcv ((hxd.trans hxN1).trans hxN3).size⟩
   ·
    have hba := blk_new wa1 (.cells #[.int .i64 0, .slice none 0 0, .int .i64 0, .int .i64 0, .int .i64 0, .slice none 0 0, .int .i64 0, .int .i64 0, .int .i64 0, .int .i64 0, .int .i64 0, .slice none 0 0] 76)
    have HBA := Lib.hid hba; clear hba
    have hxN6 : Ext wa1 (wa1.alloc (.cells #[.int .i64 0, .slice none 0 0, .int .i64 0, .int .i64 0, .int .i64 0, .slice none 0 0, .int .i64 0, .int .i64 0, .int .i64 0, .int .i64 0, .int .i64 0, .slice none 0 0] 76)) := (Ext.refl _).alloc _
    refine oneStep (fun K HK => ?_)
    simp only [PK]
    go_wp2_with fail
    refine HK.out _ _ hxN6 ?_
    clear HK K
    generalize wa1.alloc (.cells #[.int .i64 0, .slice none 0 0, .int .i64 0, .int .i64 0, .int .i64 0, .slice none 0 0, .int .i64 0, .int .i64 0, .int .i64 0, .int .i64 0, .int .i64 0, .slice none 0 0] 76) = wa6 at HBA hxN6 ⊢
    have rN3 : RdS Rep.byte (wa6.alloc (.cells #[.int .u8 7] 5)) (.slice (some ⟨wa6.heap.size, 0, none⟩) 1 1) [7] := OwnF.rd (hf := byteFlen) (OwnF.lit (f := byteF) (n := 1) byteFlen 0 5 wa6 [7] (Nat.zero_le _) (by simp [maxLen]))
    have hxN3 : Ext wa6 (wa6.alloc (.cells #[.int .u8 7] 5)) := (Ext.refl _).alloc _
    refine oneStep (fun K HK => ?_)
    simp only [PK]
    go_wp2_with fail
    refine HK.out _ _ hxN3 ?_
    clear HK K
    generalize wa6.alloc (.cells #[.int .u8 7] 5) = wa3 at rN3 hxN3 ⊢
    refine oneStep (fun K HK => ?_)
    simp only [PK]
    go_wp2_with fail
    refine (i_NewPacket 1 p _ 0 1 [7] _ _ (rP.ext (((((hx2.trans ((Ext.refl _).drew)).trans hz3).trans hz4).trans hz5).trans (((hxd.trans hxN1).trans hxN6).trans hxN3))) (rN3.ext (Ext.refl _)) (by omega) (by simp)).mono ?_
    rintro e wk1 ⟨u0, u1, rfl, ou, hk1x⟩
    go_wp2_with fail
    refine HK.out _ _ hk1x ?_
    clear HK K
    refine oneStep (fun K HK => ?_)
    simp only [PK]
    go_wp2_with fail
    refine (i_Traverse t _ _ 50 [] _ (newPkt 1 p 0 1 [7]) _ _ _ (rA.ext (((((hx2.trans ((Ext.refl _).drew)).trans hz3).trans hz4).trans hz5).trans ((((hxd.trans hxN1).trans hxN6).trans hxN3).trans hk1x))) (rL.ext (((((hx2.trans ((Ext.refl _).drew)).trans hz3).trans hz4).trans hz5).trans ((((hxd.trans hxN1).trans hxN6).trans hxN3).trans hk1x))) (rN1.ext ((hxN6.trans hxN3).trans hk1x)) ((Pkt.own_rd0 ou).ext (Ext.refl _)) ((Pkt.own_rd1 ou).ext (Ext.refl _)) hts hl2).mono ?_
    rintro e wk2 ⟨x0, x1, x2, rfl, oo, hk2x⟩
    obtain ⟨tr, htr⟩ : ∃ tr, tr = traverse t 50 [] (newPkt 1 p 0 1 [7]) := ⟨_, rfl⟩
    rw [← htr] at oo ⊢
    have HTR := Lib.hid htr; clear htr
    obtain ⟨b0, d0, rfl, _⟩ := (Trc.own_rd0 oo).shape
    obtain ⟨b1, d1, rfl, _⟩ := (Trc.own_rd1 oo).shape
    obtain ⟨b2, d2, rfl, _⟩ := (Trc.own_rd2 oo).shape
    go_wp2_with fail
    refine HK.out _ _ hk2x ?_
    clear HK K
    have hbs := Ext.block ((hxN3.trans hk1x).trans hk2x) HBA.out
    have hcs := blk12 hbs
    have hfs0 := fr_of hbs 0
    have hfs1 := fr_of hbs 1
    have hfs2 := fr_of hbs 2
    have hfs3 := fr_of hbs 3
    have hfs4 := fr_of hbs 4
    have hfs5 := fr_of hbs 5
    have hfs6 := fr_of hbs 6
    have hfs7 := fr_of hbs 7
    have hfs8 := fr_of hbs 8
    have hfs9 := fr_of hbs 9
    have hfs10 := fr_of hbs 10
    have hfs11 := fr_of hbs 11
    have HBS := Lib.hid hbs; clear hbs
    refine badStep (by kernel_rfl) (fun K HK => ?_)
    simp only [PK]
    go_wp2_with fail
    refine HK.out _ _ ?_
    clear HK K
    refine doneStep (by kernel_rfl) ?_
    go_wp2_with fail
    go_meet
    obtain ⟨wv, hwv, hbv, hcv, hsv⟩ := vd_set HBS.out (.int .i64 tr.code) ( .slice b0 tr.steps.length d0) ( .int .i64 tr.pkt.kind) ( .int .i64 tr.pkt.src) ( .int .i64 tr.pkt.dst) ( .slice b1 tr.pkt.path.parts.length d1) ( .int .i64 tr.pkt.pi) ( .int .i64 tr.pkt.hi) ( .int .i64 tr.pkt.beta) ( .int .i64 tr.pkt.rid) ( .int .i64 tr.pkt.seq) ( .slice b2 tr.pkt.pay.length d2)
    rw [← hwv]
    have ok := Trc.own_kept (Trc.own_ext oo (Ext.refl _)) hcv (fun k hk (e : k = _) => absurd hk.1 (by rw [e]; exact Nat.not_le.2 (Nat.lt_of_lt_of_le (blk_lt HBA.out) (hxN3.trans hk1x).size)))
    exact ⟨_, tr, b0, b1, b2, d0, d1, d2, rfl, HTR, hbv, Trc.own_rd0 ok, Trc.own_rd1 ok, Trc.own_rd2 ok, (((((hxd.trans hxN1).trans hxN6).trans hxN3).trans hk1x).trans hk2x).chg1 hcv (hxd.trans hxN1).size⟩
  ·
   have rN3 : RdS Rep.byte (wd3.alloc (.cells #[.int .u8 7] 5)) (.slice (some ⟨wd3.heap.size, 0, none⟩) 1 1) [7] := OwnF.rd (hf := byteFlen) (OwnF.lit (f := byteF) (n := 1) byteFlen 0 5 wd3 [7] (Nat.zero_le _) (by simp [maxLen]))
   have hxN3 : Ext wd3 (wd3.alloc (.cells #[.int .u8 7] 5)) := (Ext.refl _).alloc _
   refine oneStep (fun K HK => ?_)
   simp only [PK]
   go_wp2_with fail
   refine HK.out _ _ hxN3 ?_
   clear HK K
   generalize wd3.alloc (.cells #[.int .u8 7] 5) = wa3 at rN3 hxN3 ⊢
   refine triStep ?_ ?_ ?_
   ·
    have rN1 := OwnF.rd (hf := intFlen) (OwnF.empty intF 1 0 3 wa3 (Nat.zero_le _))
    have hxN1 : Ext wa3 (wa3.alloc (.cells #[] 3)) := (Ext.refl _).alloc _
    refine oneStep (fun K HK => ?_)
    simp only [PK]
    go_wp2_with fail
    refine HK.out _ _ hxN1 ?_
    clear HK K
    generalize wa3.alloc (.cells #[] 3) = wa1 at rN1 hxN1 ⊢
    refine twoStep ?_ ?_
    ·
     refine oneStep (fun K HK => ?_)
     simp only [PK]
     go_wp2_with fail
     refine (i_NewPacket 1 p _ 0 1 [7] _ _ (rP.ext (((((hx2.trans ((Ext.refl _).drew)).trans hz3).trans hz4).trans hz5).trans ((hxd.trans hxN3).trans hxN1))) (rN3.ext hxN1) (by omega) (by simp)).mono ?_
     rintro e wk1 ⟨u0, u1, rfl, ou, hk1x⟩
     go_wp2_with fail
     refine HK.out _ _ hk1x ?_
     clear HK K
     refine twoStep ?_ ?_
     ·
      refine oneStep (fun K HK => ?_)
      simp only [PK]
      go_wp2_with fail
      refine (i_Traverse t _ _ 50 [] _ (newPkt 1 p 0 1 [7]) _ _ _ (rA.ext (((((hx2.trans ((Ext.refl _).drew)).trans hz3).trans hz4).trans hz5).trans (((hxd.trans hxN3).trans hxN1).trans hk1x))) (rL.ext (((((hx2.trans ((Ext.refl _).drew)).trans hz3).trans hz4).trans hz5).trans (((hxd.trans hxN3).trans hxN1).trans hk1x))) (rN1.ext hk1x) ((Pkt.own_rd0 ou).ext (Ext.refl _)) ((Pkt.own_rd1 ou).ext (Ext.refl _)) hts hl2).mono ?_
      rintro e wk2 ⟨x0, x1, x2, rfl, oo, hk2x⟩
      obtain ⟨tr, htr⟩ : ∃ tr, tr = traverse t 50 [] (newPkt 1 p 0 1 [7]) := ⟨_, rfl⟩
      rw [← htr] at oo ⊢
      have HTR := Lib.hid htr; clear htr
      obtain ⟨b0, d0, rfl, _⟩ := (Trc.own_rd0 oo).shape
      obtain ⟨b1, d1, rfl, _⟩ := (Trc.own_rd1 oo).shape
      obtain ⟨b2, d2, rfl, _⟩ := (Trc.own_rd2 oo).shape
      go_wp2_with fail
      refine HK.out _ _ hk2x ?_
      clear HK K
      refine oneStep (fun K HK => ?_)
      simp only [PK]
      go_wp2_with fail
      refine HK.out _ _ ((Ext.refl _).alloc _) ?_
      clear HK K
      refine badStep (by kernel_rfl) (fun K HK => ?_)
      simp only [PK]
      go_wp2_with fail
      refine HK.out _ _ ?_
      clear HK K
      refine doneStep (by kernel_rfl) ?_
      go_wp2_with fail
      go_meet
      exact ⟨_, tr, b0, b1, b2, d0, d1, d2, rfl, HTR, blk_new _ _, (Trc.own_rd0 oo).ext ((Ext.refl _).alloc _), (Trc.own_rd1 oo).ext ((Ext.refl _).alloc _), (Trc.own_rd2 oo).ext ((Ext.refl _).alloc _), ((((hxd.trans hxN3).trans hxN1).trans hk1x).trans hk2x).alloc _⟩
     ·
      have hba := blk_new wk1 (.cells #[.int .i64 0, .slice none 0 0, .int .i64 0, .int .i64 0, .int .i64 0, .slice none 0 0, .int .i64 0, .int .i64 0, .int .i64 0, .int .i64 0, .int .i64 0, .slice none 0 0] 76)
      have HBA := Lib.hid hba; clear hba
      have hxN6 : Ext wk1 (wk1.alloc (.cells #[.int .i64 0, .slice none 0 0, .int .i64 0, .int .i64 0, .int .i64 0, .slice none 0 0, .int .i64 0, .int .i64 0, .int .i64 0, .int .i64 0, .int .i64 0, .slice none 0 0] 76)) := (Ext.refl _).alloc _
      refine oneStep (fun K HK => ?_)
      simp only [PK]
      go_wp2_with fail
      refine HK.out _ _ hxN6 ?_
      clear HK K
      generalize wk1.alloc (.cells #[.int .i64 0, .slice none 0 0, .int .i64 0, .int .i64 0, .int .i64 0, .slice none 0 0, .int .i64 0, .int .i64 0, .int .i64 0, .int .i64 0, .int .i64 0, .slice none 0 0] 76) = wa6 at HBA hxN6 ⊢
      refine oneStep (fun K HK => ?_)
      simp only [PK]
      go_wp2_with fail
      refine (i_Traverse t _ _ 50 [] _ (newPkt 1 p 0 1 [7]) _ _ _ (rA.ext (((((hx2.trans ((Ext.refl _).drew)).trans hz3).trans hz4).trans hz5).trans ((((hxd.trans hxN3).trans hxN1).trans hk1x).trans hxN6))) (rL.ext (((((hx2.trans ((Ext.refl _).drew)).trans hz3).trans hz4).trans hz5).trans ((((hxd.trans hxN3).trans hxN1).trans hk1x).trans hxN6))) (rN1.ext (hk1x.trans hxN6)) ((Pkt.own_rd0 ou).ext hxN6) ((Pkt.own_rd1 ou).ext hxN6) hts hl2).mono ?_
      rintro e wk2 ⟨x0, x1, x2, rfl, oo, hk2x⟩
      obtain ⟨tr, htr⟩ : ∃ tr, tr = traverse t 50 [] (newPkt 1 p 0 1 [7]) := ⟨_, rfl⟩
      rw [← htr] at oo ⊢
      have HTR := Lib.hid htr; clear htr
      obtain ⟨b0, d0, rfl, _⟩ := (Trc.own_rd0 oo).shape
      obtain ⟨b1, d1, rfl, _⟩ := (Trc.own_rd1 oo).shape
      obtain ⟨b2, d2, rfl, _⟩ := (Trc.own_rd2 oo).shape
      go_wp2_with fail
      refine HK.out _ _ hk2x ?_
      clear HK K
      have hbs := Ext.block hk2x HBA.out
      have hcs := blk12 hbs
      have hfs0 := fr_of hbs 0
      have hfs1 := fr_of hbs 1
      have hfs2 := fr_of hbs 2
      have hfs3 := fr_of hbs 3
      have hfs4 := fr_of hbs 4
      have hfs5 := fr_of hbs 5
      have hfs6 := fr_of hbs 6
      have hfs7 := fr_of hbs 7
      have hfs8 := fr_of hbs 8
      have hfs9 := fr_of hbs 9
      have hfs10 := fr_of hbs 10
      have hfs11 := fr_of hbs 11
      have HBS := Lib.hid hbs; clear hbs
      refine badStep (by kernel_rfl) (fun K HK => ?_)
      simp only [PK]
      go_wp2_with fail
      refine HK.out _ _ ?_
      clear HK K
      refine doneStep (by kernel_rfl) ?_
      go_wp2_with fail
      go_meet
      obtain ⟨wv, hwv, hbv, hcv, hsv⟩ := vd_set HBS.out (.int .i64 tr.code) ( .slice b0 tr.steps.length d0) ( .int .i64 tr.pkt.kind) ( .int .i64 tr.pkt.src) ( .int .i64 tr.pkt.dst) ( .slice b1 tr.pkt.path.parts.length d1) ( .int .i64 tr.pkt.pi) ( .int .i64 tr.pkt.hi) ( .int .i64 tr.pkt.beta) ( .int .i64 tr.pkt.rid) ( .int .i64 tr.pkt.seq) ( .slice b2 tr.pkt.pay.length d2)
      rw [← hwv]
      have ok := Trc.own_kept (Trc.own_ext oo (Ext.refl _)) hcv (fun k hk (e : k = _) => absurd hk.1 (by rw [e]; exact Nat.not_le.2 (Nat.lt_of_lt_of_le (blk_lt HBA.out) (Ext.refl _).size)))
      exact ⟨_, tr, b0, b1, b2, d0, d1, d2, rfl, HTR, hbv, Trc.own_rd0 ok, Trc.own_rd1 ok, Trc.own_rd2 ok, (((((hxd.trans hxN3).trans hxN1).trans hk1x).trans hxN6).trans hk2x).chg1 hcv (((hxd.trans hxN3).trans hxN1).trans hk1x).size⟩
    ·
     have hba := blk_new wa1 (.cells #[.int .i64 0, .slice none 0 0, .int .i64 0, .int .i64 0, .int .i64 0, .slice none 0 0, .int .i64 0, .int .i64 0, .int .i64 0, .int .i64 0, .int .i64 0, .slice none 0 0] 76)
     have HBA := Lib.hid hba; clear hba
     have hxN6 : Ext wa1 (wa1.alloc (.cells #[.int .i64 0, .slice none 0 0, .int .i64 0, .int .i64 0, .int .i64 0, .slice none 0 0, .int .i64 0, .int .i64 0, .int .i64 0, .int .i64 0, .int .i64 0, .slice none 0 0] 76)) := (Ext.refl _).alloc _
     refine oneStep (fun K HK => ?_)
     simp only [PK]
     go_wp2_with fail
     refine HK.out _ _ hxN6 ?_
     clear HK K
     generalize wa1.alloc (.cells #[.int .i64 0, .slice none 0 0, .int .i64 0, .int .i64 0, .int .i64 0, .slice none 0 0, .int .i64 0, .int .i64 0, .int .i64 0, .int .i64 0, .int .i64 0, .slice none 0 0] 76) = wa6 at HBA hxN6 ⊢
     refine oneStep (fun K HK => ?_)
     simp only [PK]
     go_wp2_with fail
     refine (i_NewPacket 1 p _ 0 1 [7] _ _ (rP.ext (((((hx2.trans ((Ext.refl _).drew)).trans hz3).trans hz4).trans hz5).trans (((hxd.trans hxN3).trans hxN1).trans hxN6))) (rN3.ext (hxN1.trans hxN6)) (by omega) (by simp)).mono ?_
     rintro e wk1 ⟨u0, u1, rfl, ou, hk1x⟩
     go_wp2_with fail
     refine HK.out _ _ hk1x ?_
     clear HK K
     refine oneStep (fun K HK => ?_)
     simp only [PK]
     go_wp2_with fail
     refine (i_Traverse t _ _ 50 [] _ (newPkt 1 p 0 1 [7]) _ _ _ (rA.ext (((((hx2.trans ((Ext.refl _).drew)).trans hz3).trans hz4).trans hz5).trans ((((hxd.trans hxN3).trans hxN1).trans hxN6).trans hk1x))) (rL.ext (((((hx2.trans ((Ext.refl _).drew)).trans hz3).trans hz4).trans hz5).trans ((((hxd.trans hxN3).trans hxN1).trans hxN6).trans hk1x))) (rN1.ext (hxN6.trans hk1x)) ((Pkt.own_rd0 ou).ext (Ext.refl _)) ((Pkt.own_rd1 ou).ext (Ext.refl _)) hts hl2).mono ?_
     rintro e wk2 ⟨x0, x1, x2, rfl, oo, hk2x⟩
     obtain ⟨tr, htr⟩ : ∃ tr, tr = traverse t 50 [] (newPkt 1 p 0 1 [7]) := ⟨_, rfl⟩
     rw [← htr] at oo ⊢
     have HTR := Lib.hid htr; clear htr
     obtain ⟨b0, d0, rfl, _⟩ := (Trc.own_rd0 oo).shape
     obtain ⟨b1, d1, rfl, _⟩ := (Trc.own_rd1 oo).shape
     obtain ⟨b2, d2, rfl, _⟩ := (Trc.own_rd2 oo).shape
     go_wp2_with fail
     refine HK.out _ _ hk2x ?_
     clear HK K
     have hbs := Ext.block (hk1x.trans hk2x) HBA.out
     have hcs := blk12 hbs
     have hfs0 := fr_of hbs 0
     have hfs1 := fr_of hbs 1
     have hfs2 := fr_of hbs 2
     have hfs3 := fr_of hbs 3
     have hfs4 := fr_of hbs 4
     have hfs5 := fr_of hbs 5
     have hfs6 := fr_of hbs 6
     have hfs7 := fr_of hbs 7
     have hfs8 := fr_of hbs 8
     have hfs9 := fr_of hbs 9
     have hfs10 := fr_of hbs 10
     have hfs11 := fr_of hbs 11
     have HBS := Lib.hid hbs; clear hbs
     refine badStep (by kernel_rfl) (fun K HK => ?_)
     simp only [PK]
     go_wp2_with fail
     refine HK.out _ _ ?_
     clear HK K
     refine doneStep (by kernel_rfl) ?_
     go_wp2_with fail
     go_meet
     obtain ⟨wv, hwv, hbv, hcv, hsv⟩ := vd_set HBS.out (.int .i64 tr.code) ( .slice b0 tr.steps.length d0) ( .int .i64 tr.pkt.kind) ( .int .i64 tr.pkt.src) ( .int .i64 tr.pkt.dst) ( .slice b1 tr.pkt.path.parts.length d1) ( .int .i64 tr.pkt.pi) ( .int .i64 tr.pkt.hi) ( .int .i64 tr.pkt.beta) ( .int .i64 tr.pkt.rid) ( .int .i64 tr.pkt.seq) ( .slice b2 tr.pkt.pay.length d2)
     rw [← hwv]
     have ok := Trc.own_kept (Trc.own_ext oo (Ext.refl _)) hcv (fun k hk (e : k = _) => absurd hk.1 (by rw [e]; exact Nat.not_le.2 (Nat.lt_of_lt_of_le (blk_lt HBA.out) hk1x.size)))
     exact ⟨_, tr, b0, b1, b2, d0, d1, d2, rfl, HTR, hbv, Trc.own_rd0 ok, Trc.own_rd1 ok, Trc.own_rd2 ok, (((((hxd.trans hxN3).trans hxN1).trans hxN6).trans hk1x).trans hk2x).chg1 hcv ((hxd.trans hxN3).trans hxN1).size⟩
   ·
    refine oneStep (fun K HK => ?_)
    simp only [PK]
    go_wp2_with fail
    refine (i_NewPacket 1 p _ 0 1 [7] _ _ (rP.ext (((((hx2.trans ((Ext.refl _).drew)).trans hz3).trans hz4).trans hz5).trans (hxd.trans hxN3))) (rN3.ext (Ext.refl _)) (by omega) (by simp)).mono ?_
    rintro e wk1 ⟨u0, u1, rfl, ou, hk1x⟩
    go_wp2_with fail
    refine HK.out _ _ hk1x ?_
    clear HK K
    refine twoStep ?_ ?_
    ·
     have rN1 := OwnF.rd (hf := intFlen) (OwnF.empty intF 1 0 3 wk1 (Nat.zero_le _))
     have hxN1 : Ext wk1 (wk1.alloc (.cells #[] 3)) := (Ext.refl _).alloc _
     refine oneStep (fun K HK => ?_)
     simp only [PK]
     go_wp2_with fail
     refine HK.out _ _ hxN1 ?_
     clear HK K
     generalize wk1.alloc (.cells #[] 3) = wa1 at rN1 hxN1 ⊢
     refine twoStep ?_ ?_
     ·
      refine oneStep (fun K HK => ?_)
      simp only [PK]
      go_wp2_with fail
      refine (i_Traverse t _ _ 50 [] _ (newPkt 1 p 0 1 [7]) _ _ _ (rA.ext (((((hx2.trans ((Ext.refl _).drew)).trans hz3).trans hz4).trans hz5).trans (((hxd.trans hxN3).trans hk1x).trans hxN1))) (rL.ext (((((hx2.trans ((Ext.refl _).drew)).trans hz3).trans hz4).trans hz5).trans (((hxd.trans hxN3).trans hk1x).trans hxN1))) (rN1.ext (Ext.refl _)) ((Pkt.own_rd0 ou).ext hxN1) ((Pkt.own_rd1 ou).ext hxN1) hts hl2).mono ?_
      rintro e wk2 ⟨x0, x1, x2, rfl, oo, hk2x⟩
      obtain ⟨tr, htr⟩ : ∃ tr, tr = traverse t 50 [] (newPkt 1 p 0 1 [7]) := ⟨_, rfl⟩
      rw [← htr] at oo ⊢
      have HTR := Lib.hid htr; clear htr
      obtain ⟨b0, d0, rfl, _⟩ := (Trc.own_rd0 oo).shape
      obtain ⟨b1, d1, rfl, _⟩ := (Trc.own_rd1 oo).shape
      obtain ⟨b2, d2, rfl, _⟩ := (Trc.own_rd2 oo).shape
      go_wp2_with fail
      refine HK.out _ _ hk2x ?_
      clear HK K
      refine oneStep (fun K HK => ?_)
      simp only [PK]
      go_wp2_with fail
      refine HK.out _ _ ((Ext.refl _).alloc _) ?_
      clear HK K
      refine badStep (by kernel_rfl) (fun K HK => ?_)
      simp only [PK]
      go_wp2_with fail
      refine HK.out _ _ ?_
      clear HK K
      refine doneStep (by kernel_rfl) ?_
      go_wp2_with fail
      go_meet
      exact ⟨_, tr, b0, b1, b2, d0, d1, d2, rfl, HTR, blk_new _ _, (Trc.own_rd0 oo).ext ((Ext.refl _).alloc _), (Trc.own_rd1 oo).ext ((Ext.refl _).alloc _), (Trc.own_rd2 oo).ext ((Ext.refl _).alloc _), ((((hxd.trans hxN3).trans hk1x).trans hxN1).trans hk2x).alloc _⟩
     ·
      have hba := blk_new wa1 (.cells #[.int .i64 0, .slice none 0 0, .int .i64 0, .int .i64 0, .int .i64 0, .slice none 0 0, .int .i64 0, .int .i64 0, .int .i64 0, .int .i64 0, .int .i64 0, .slice none 0 0] 76)
      have HBA := Lib.hid hba; clear hba
      have hxN6 : Ext wa1 (wa1.alloc (.cells #[.int .i64 0, .slice none 0 0, .int .i64 0, .int .i64 0, .int .i64 0, .slice none 0 0, .int .i64 0, .int .i64 0, .int .i64 0, .int .i64 0, .int .i64 0, .slice none 0 0] 76)) := (Ext.refl _).alloc _
      refine oneStep (fun K HK => ?_)
      simp only [PK]
      go_wp2_with fail
      refine HK.out _ _ hxN6 ?_
      clear HK K
      generalize wa1.alloc (.cells #[.int .i64 0, .slice none 0 0, .int .i64 0, .int .i64 0, .int .i64 0, .slice none 0 0, .int .i64 0, .int .i64 0, .int .i64 0, .int .i64 0, .int .i64 0, .slice none 0 0] 76) = wa6 at HBA hxN6 ⊢
      refine oneStep (fun K HK => ?_)
      simp only [PK]
      go_wp2_with fail
      refine (i_Traverse t _ _ 50 [] _ (newPkt 1 p 0 1 [7]) _ _ _ (rA.ext (((((hx2.trans ((Ext.refl _).drew)).trans hz3).trans hz4).trans hz5).trans ((((hxd.trans hxN3).trans hk1x).trans hxN1).trans hxN6))) (rL.ext (((((hx2.trans ((Ext.refl _).drew)).trans hz3).trans hz4).trans hz5).trans ((((hxd.trans hxN3).trans hk1x).trans hxN1).trans hxN6))) (rN1.ext hxN6) ((Pkt.own_rd0 ou).ext (hxN1.trans hxN6)) ((Pkt.own_rd1 ou).ext (hxN1.trans hxN6)) hts hl2).mono ?_
      rintro e wk2 ⟨x0, x1, x2, rfl, oo, hk2x⟩
      obtain ⟨tr, htr⟩ : ∃ tr, tr = traverse t 50 [] (newPkt 1 p 0 1 [7]) := ⟨_, rfl⟩
      rw [← htr] at oo ⊢
      have HTR := Lib.hid htr; clear htr
      obtain ⟨b0, d0, rfl, _⟩ := (Trc.own_rd0 oo).shape
      obtain ⟨b1, d1, rfl, _⟩ := (Trc.own_rd1 oo).shape
      obtain ⟨b2, d2, rfl, _⟩ := (Trc.own_rd2 oo).shape
      go_wp2_with fail
      refine HK.out _ _ hk2x ?_
      clear HK K
      have hbs := Ext.block hk2x HBA.out
      have hcs := blk12 hbs
      have hfs0 := fr_of hbs 0
      have hfs1 := fr_of hbs 1
      have hfs2 := fr_of hbs 2
      have hfs3 := fr_of hbs 3
      have hfs4 := fr_of hbs 4
      have hfs5 := fr_of hbs 5
      have hfs6 := fr_of hbs 6
      have hfs7 := fr_of hbs 7
      have hfs8 := fr_of hbs 8
      have hfs9 := fr_of hbs 9
      have hfs10 := fr_of hbs 10
      have hfs11 := fr_of hbs 11
      have HBS := Lib.hid hbs; clear hbs
      refine badStep (by kernel_rfl) (fun K HK => ?_)
      simp only [PK]
      go_wp2_with fail
      refine HK.out _ _ ?_
      clear HK K
      refine doneStep (by kernel_rfl) ?_
      go_wp2_with fail
      go_meet
      obtain ⟨wv, hwv, hbv, hcv, hsv⟩ := vd_set HBS.out (.int .i64 tr.code) ( .slice b0 tr.steps.length d0) ( .int .i64 tr.pkt.kind) ( .int .i64 tr.pkt.src) ( .int .i64 tr.pkt.dst) ( .slice b1 tr.pkt.path.parts.length d1) ( .int .i64 tr.pkt.pi) ( .int .i64 tr.pkt.hi) ( .int .i64 tr.pkt.beta) ( .int .i64 tr.pkt.rid) ( .int .i64 tr.pkt.seq) ( .slice b2 tr.pkt.pay.length d2)
      rw [← hwv]
      have ok := Trc.own_kept (Trc.own_ext oo (Ext.refl _)) hcv (fun k hk (e : k = _) => absurd hk.1 (by rw [e]; exact Nat.not_le.2 (Nat.lt_of_lt_of_le (blk_lt HBA.out) (Ext.refl _).size)))
      exact ⟨_, tr, b0, b1, b2, d0, d1, d2, rfl, HTR, hbv, Trc.own_rd0 ok, Trc.own_rd1 ok, Trc.own_rd2 ok, (((((hxd.trans hxN3).trans hk1x).trans hxN1).trans hxN6).trans hk2x).chg1 hcv (((hxd.trans hxN3).trans hk1x).trans hxN1).size⟩
    ·
     have hba := blk_new wk1 (.cells #[.int .i64 0, .slice none 0 0, .int .i64 0, .int .i64 0, .int .i64 0, .slice none 0 0, .int .i64 0, .int .i64 0, .int .i64 0, .int .i64 0, .int .i64 0, .slice none 0 0] 76)
     have HBA := Lib.hid hba; clear hba
     have hxN6 : Ext wk1 (wk1.alloc (.cells #[.int .i64 0, .slice none 0 0, .int .i64 0, .int .i64 0, .int .i64 0, .slice none 0 0, .int .i64 0, .int .i64 0, .int .i64 0, .int .i64 0, .int .i64 0, .slice none 0 0] 76)) := (Ext.refl _).alloc _
     refine oneStep (fun K HK => ?_)
     simp only [PK]
     go_wp2_with fail
     refine HK.out _ _ hxN6 ?_
     clear HK K
     generalize wk1.alloc (.cells #[.int .i64 0, .slice none 0 0, .int .i64 0, .int .i64 0, .int .i64 0, .slice none 0 0, .int .i64 0, .int .i64 0, .int .i64 0, .int .i64 0, .int .i64 0, .slice none 0 0] 76) = wa6 at HBA hxN6 ⊢
     have rN1 := OwnF.rd (hf := intFlen) (OwnF.empty intF 1 0 3 wa6 (Nat.zero_le _))
     have hxN1 : Ext wa6 (wa6.alloc (.cells #[] 3)) := (Ext.refl _).alloc _
     refine oneStep (fun K HK => ?_)
     simp only [PK]
     go_wp2_with fail
     refine HK.out _ _ hxN1 ?_
     clear HK K
     generalize wa6.alloc (.cells #[] 3) = wa1 at rN1 hxN1 ⊢
     refine oneStep (fun K HK => ?_)
     simp only [PK]
     go_wp2_with fail
     refine (i_Traverse t _ _ 50 [] _ (newPkt 1 p 0 1 [7]) _ _ _ (rA.ext (((((hx2.trans ((Ext.refl _).drew)).trans hz3).trans hz4).trans hz5).trans ((((hxd.trans hxN3).trans hk1x).trans hxN6).trans hxN1))) (rL.ext (((((hx2.trans ((Ext.refl _).drew)).trans hz3).trans hz4).trans hz5).trans ((((hxd.trans hxN3).trans hk1x).trans hxN6).trans hxN1))) (rN1.ext (Ext.refl _)) ((Pkt.own_rd0 ou).ext (hxN6.trans hxN1)) ((Pkt.own_rd1 ou).ext (hxN6.trans hxN1)) hts hl2).mono ?_
     rintro e wk2 ⟨x0, x1, x2, rfl, oo, hk2x⟩
     obtain ⟨tr, htr⟩ : ∃ tr, tr = traverse t 50 [] (newPkt 1 p 0 1 [7]) := ⟨_, rfl⟩
     rw [← htr] at oo ⊢
     have HTR := Lib.hid htr; clear htr
     obtain ⟨b0, d0, rfl, _⟩ := (Trc.own_rd0 oo).shape
     obtain ⟨b1, d1, rfl, _⟩ := (Trc.own_rd1 oo).shape
     obtain ⟨b2, d2, rfl, _⟩ := (Trc.own_rd2 oo).shape
     go_wp2_with fail
     refine HK.out _ _ hk2x ?_
     clear HK K
     have hbs := Ext.block (hxN1.trans hk2x) HBA.out
     have hcs := blk12 hbs
     have hfs0 := fr_of hbs 0
     have hfs1 := fr_of hbs 1
     have hfs2 := fr_of hbs 2
     have hfs3 := fr_of hbs 3
     have hfs4 := fr_of hbs 4
     have hfs5 := fr_of hbs 5
     have hfs6 := fr_of hbs 6
     have hfs7 := fr_of hbs 7
     have hfs8 := fr_of hbs 8
     have hfs9 := fr_of hbs 9
     have hfs10 := fr_of hbs 10
     have hfs11 := fr_of hbs 11
     have HBS := Lib.hid hbs; clear hbs
     refine badStep (by kernel_rfl) (fun K HK => ?_)
     simp only [PK]
     go_wp2_with fail
     refine HK.out _ _ ?_
     clear HK K
     refine doneStep (by kernel_rfl) ?_
     go_wp2_with fail
     go_meet
     obtain ⟨wv, hwv, hbv, hcv, hsv⟩ := vd_set HBS.out (.int .i64 tr.code) ( .slice b0 tr.steps.length d0) ( .int .i64 tr.pkt.kind) ( .int .i64 tr.pkt.src) ( .int .i64 tr.pkt.dst) ( .slice b1 tr.pkt.path.parts.length d1) ( .int .i64 tr.pkt.pi) ( .int .i64 tr.pkt.hi) ( .int .i64 tr.pkt.beta) ( .int .i64 tr.pkt.rid) ( .int .i64 tr.pkt.seq) ( .slice b2 tr.pkt.pay.length d2)
     rw [← hwv]
     have ok := Trc.own_kept (Trc.own_ext oo (Ext.refl _)) hcv (fun k hk (e : k = _) => absurd hk.1 (by rw [e]; exact Nat.not_le.2 (Nat.lt_of_lt_of_le (blk_lt HBA.out) hxN1.size)))
     exact ⟨_, tr, b0, b1, b2, d0, d1, d2, rfl, HTR, hbv, Trc.own_rd0 ok, Trc.own_rd1 ok, Trc.own_rd2 ok, (((((hxd.trans hxN3).trans hk1x).trans hxN6).trans hxN1).trans hk2x).chg1 hcv ((hxd.trans hxN3).trans hk1x).size⟩
   ·
    have hba := blk_new wa3 (.cells #[.int .i64 0, .slice none 0 0, .int .i64 0, .int .i64 0, .int .i64 0, .slice none 0 0, .int .i64 0, .int .i64 0, .int .i64 0, .int .i64 0, .int .i64 0, .slice none 0 0] 76)
    have HBA := Lib.hid hba; clear hba
    have hxN6 : Ext wa3 (wa3.alloc (.cells #[.int .i64 0, .slice none 0 0, .int .i64 0, .int .i64 0, .int .i64 0, .slice none 0 0, .int .i64 0, .int .i64 0, .int .i64 0, .int .i64 0, .int .i64 0, .slice none 0 0] 76)) := (Ext.refl _).alloc _
    refine oneStep (fun K HK => ?_)
    simp only [PK]
    go_wp2_with fail
    refine HK.out _ _ hxN6 ?_
    clear HK K
    generalize wa3.alloc (.cells #[.int .i64 0, .slice none 0 0, .int .i64 0, .int .i64 0, .int .i64 0, .slice none 0 0, .int .i64 0, .int .i64 0, .int .i64 0, .int .i64 0, .int .i64 0, .slice none 0 0] 76) = wa6 at HBA hxN6 ⊢
    refine twoStep ?_ ?_
    ·
     have rN1 := OwnF.rd (hf := intFlen) (OwnF.empty intF 1 0 3 wa6 (Nat.zero_le _))
     have hxN1 : Ext wa6 (wa6.alloc (.cells #[] 3)) := (Ext.refl _).alloc _
     refine oneStep (fun K HK => ?_)
     simp only [PK]
     go_wp2_with fail
     refine HK.out _ _ hxN1 ?_
     clear HK K
     generalize wa6.alloc (.cells #[] 3) = wa1 at rN1 hxN1 ⊢
     refine oneStep (fun K HK => ?_)
     simp only [PK]
     go_wp2_with fail
     refine (i_NewPacket 1 p _ 0 1 [7] _ _ (rP.ext (((((hx2.trans ((Ext.refl _).drew)).trans hz3).trans hz4).trans hz5).trans (((hxd.trans hxN3).trans hxN6).trans hxN1))) (rN3.ext (hxN6.trans hxN1)) (by omega) (by simp)).mono ?_
     rintro e wk1 ⟨u0, u1, rfl, ou, hk1x⟩
     go_wp2_with fail
     refine HK.out _ _ hk1x ?_
     clear HK K
     refine oneStep (fun K HK => ?_)
     simp only [PK]
     go_wp2_with fail
     refine (i_Traverse t _ _ 50 [] _ (newPkt 1 p 0 1 [7]) _ _ _ (rA.ext (((((hx2.trans ((Ext.refl _).drew)).trans hz3).trans hz4).trans hz5).trans ((((hxd.trans hxN3).trans hxN6).trans hxN1).trans hk1x))) (rL.ext (((((hx2.trans ((Ext.refl _).drew)).trans hz3).trans hz4).trans hz5).trans ((((hxd.trans hxN3).trans hxN6).trans hxN1).trans hk1x))) (rN1.ext hk1x) ((Pkt.own_rd0 ou).ext (Ext.refl _)) ((Pkt.own_rd1 ou).ext (Ext.refl _)) hts hl2).mono ?_
     rintro e wk2 ⟨x0, x1, x2, rfl, oo, hk2x⟩
     obtain ⟨tr, htr⟩ : ∃ tr, tr = traverse t 50 [] (newPkt 1 p 0 1 [7]) := ⟨_, rfl⟩
     rw [← htr] at oo ⊢
     have HTR := Lib.hid htr; clear htr
     obtain ⟨b0, d0, rfl, _⟩ := (Trc.own_rd0 oo).shape
     obtain ⟨b1, d1, rfl, _⟩ := (Trc.own_rd1 oo).shape
     obtain ⟨b2, d2, rfl, _⟩ := (Trc.own_rd2 oo).shape
     go_wp2_with fail
     refine HK.out _ _ hk2x ?_
     clear HK K
     have hbs := Ext.block ((hxN1.trans hk1x).trans hk2x) HBA.out
     have hcs := blk12 hbs
     have hfs0 := fr_of hbs 0
     have hfs1 := fr_of hbs 1
     have hfs2 := fr_of hbs 2
     have hfs3 := fr_of hbs 3
     have hfs4 := fr_of hbs 4
     have hfs5 := fr_of hbs 5
     have hfs6 := fr_of hbs 6
     have hfs7 := fr_of hbs 7
     have hfs8 := fr_of hbs 8
     have hfs9 := fr_of hbs 9
     have hfs10 := fr_of hbs 10
     have hfs11 := fr_of hbs 11
     have HBS := Lib.hid hbs; clear hbs
     refine badStep (by kernel_rfl) (fun K HK => ?_)
     simp only [PK]
     go_wp2_with fail
     refine HK.out _ _ ?_
     clear HK K
     refine doneStep (by kernel_rfl) ?_
     go_wp2_with fail
     go_meet
     obtain ⟨wv, hwv, hbv, hcv, hsv⟩ := vd_set HBS.out (.int .i64 tr.code) ( .slice b0 tr.steps.length d0) ( .int .i64 tr.pkt.kind) ( .int .i64 tr.pkt.src) ( .int .i64 tr.pkt.dst) ( .slice b1 tr.pkt.path.parts.length d1) ( .int .i64 tr.pkt.pi) ( .int .i64 tr.pkt.hi) ( .int .i64 tr.pkt.beta) ( .int .i64 tr.pkt.rid) ( .int .i64 tr.pkt.seq) ( .slice b2 tr.pkt.pay.length d2)
     rw [← hwv]
     have ok := Trc.own_kept (Trc.own_ext oo (Ext.refl _)) hcv (fun k hk (e : k = _) => absurd hk.1 (by rw [e]; exact Nat.not_le.2 (Nat.lt_of_lt_of_le (blk_lt HBA.out) (hxN1.trans hk1x).size)))
     exact ⟨_, tr, b0, b1, b2, d0, d1, d2, rfl, HTR, hbv, Trc.own_rd0 ok, Trc.own_rd1 ok, Trc.own_rd2 ok, (((((hxd.trans hxN3).trans hxN6).trans hxN1).trans hk1x).trans hk2x).chg1 hcv (hxd.trans hxN3).size⟩
    ·
     refine oneStep (fun K HK => ?_)
     simp only [PK]
     go_wp2_with fail
     refine (i_NewPacket 1 p _ 0 1 [7] _ _ (rP.ext (((((hx2.trans ((Ext.refl _).drew)).trans hz3).trans hz4).trans hz5).trans ((hxd.trans hxN3).trans hxN6))) (rN3.ext hxN6) (by omega) (by simp)).mono ?_
     rintro e wk1 ⟨u0, u1, rfl, ou, hk1x⟩
     go_wp2_with fail
     refine HK.out _ _ hk1x ?_
     clear HK K
     have rN1 := OwnF.rd (hf := intFlen) (OwnF.empty intF 1 0 3 wk1 (Nat.zero_le _))
     have hxN1 : Ext wk1 (wk1.alloc (.cells #[] 3)) := (Ext.refl _).alloc _
     refine oneStep (fun K HK => ?_)
     simp only [PK]
     go_wp2_with fail
     refine HK.out _ _ hxN1 ?_
     clear HK K
     generalize wk1.alloc (.cells #[] 3) = wa1 at rN1 hxN1 ⊢
     refine oneStep (fun K HK => ?_)
     simp only [PK]
     go_wp2_with fail
     refine (i_Traverse t _ _ 50 [] _ (newPkt 1 p 0 1 [7]) _ _ _ (rA.ext (((((hx2.trans ((Ext.refl _).drew)).trans hz3).trans hz4).trans hz5).trans ((((hxd.trans hxN3).trans hxN6).trans hk1x).trans hxN1))) (rL.ext (((((hx2.trans ((Ext.refl _).drew)).trans hz3).trans hz4).trans hz5).trans ((((hxd.trans hxN3).trans hxN6).trans hk1x).trans hxN1))) (rN1.ext (Ext.refl _)) ((Pkt.own_rd0 ou).ext hxN1) ((Pkt.own_rd1 ou).ext hxN1) hts hl2).mono ?_
     rintro e wk2 ⟨x0, x1, x2, rfl, oo, hk2x⟩
     obtain ⟨tr, htr⟩ : ∃ tr, tr = traverse t 50 [] (newPkt 1 p 0 1 [7]) := ⟨_, rfl⟩
     rw [← htr] at oo ⊢
     have HTR := Lib.hid htr; clear htr
     obtain ⟨b0, d0, rfl, _⟩ := (Trc.own_rd0 oo).shape
     obtain ⟨b1, d1, rfl, _⟩ := (Trc.own_rd1 oo).shape
     obtain ⟨b2, d2, rfl, _⟩ := (Trc.own_rd2 oo).shape
     go_wp2_with fail
     refine HK.out _ _ hk2x ?_
     clear HK K
     have hbs := Ext.block ((hk1x.trans hxN1).trans hk2x) HBA.out
     have hcs := blk12 hbs
     have hfs0 := fr_of hbs 0
     have hfs1 := fr_of hbs 1
     have hfs2 := fr_of hbs 2
     have hfs3 := fr_of hbs 3
     have hfs4 := fr_of hbs 4
     have hfs5 := fr_of hbs 5
     have hfs6 := fr_of hbs 6
     have hfs7 := fr_of hbs 7
     have hfs8 := fr_of hbs 8
     have hfs9 := fr_of hbs 9
     have hfs10 := fr_of hbs 10
     have hfs11 := fr_of hbs 11
     have HBS := Lib.hid hbs; clear hbs
     refine badStep (by kernel_rfl) (fun K HK => ?_)
     simp only [PK]
     go_wp2_with fail
     refine HK.out _ _ ?_
     clear HK K
     refine doneStep (by kernel_rfl) ?_
     go_wp2_with fail
     go_meet
     obtain ⟨wv, hwv, hbv, hcv, hsv⟩ := vd_set HBS.out (.int .i64 tr.code) ( .slice b0 tr.steps.length d0) ( .int .i64 tr.pkt.kind) ( .int .i64 tr.pkt.src) ( .int .i64 tr.pkt.dst) ( .slice b1 tr.pkt.path.parts.length d1) ( .int .i64 tr.pkt.pi) ( .int .i64 tr.pkt.hi) ( .int .i64 tr.pkt.beta) ( .int .i64 tr.pkt.rid) ( .int .i64 tr.pkt.seq) ( .slice b2 tr.pkt.pay.length d2)
     rw [← hwv]
     have ok := Trc.own_kept (Trc.own_ext oo (Ext.refl _)) hcv (fun k hk (e : k = _) => absurd hk.1 (by rw [e]; exact Nat.not_le.2 (Nat.lt_of_lt_of_le (blk_lt HBA.out) (hk1x.trans hxN1).size)))
     exact ⟨_, tr, b0, b1, b2, d0, d1, d2, rfl, HTR, hbv, Trc.own_rd0 ok, Trc.own_rd1 ok, Trc.own_rd2 ok, (((((hxd.trans hxN3).trans hxN6).trans hk1x).trans hxN1).trans hk2x).chg1 hcv (hxd.trans hxN3).size⟩
  ·
   have hba := blk_new wd3 (.cells #[.int .i64 0, .slice none 0 0, .int .i64 0, .int .i64 0, .int .i64 0, .slice none 0 0, .int .i64 0, .int .i64 0, .int .i64 0, .int .i64 0, .int .i64 0, .slice none 0 0] 76)
   have HBA := Lib.hid hba; clear hba
   have hxN6 : Ext wd3 (wd3.alloc (.cells #[.int .i64 0, .slice none 0 0, .int .i64 0, .int .i64 0, .int .i64 0, .slice none 0 0, .int .i64 0, .int .i64 0, .int .i64 0, .int .i64 0, .int .i64 0, .slice none 0 0] 76)) := (Ext.refl _).alloc _
   refine oneStep (fun K HK => ?_)
   simp only [PK]
   go_wp2_with fail
   refine HK.out _ _ hxN6 ?_
   clear HK K
   generalize wd3.alloc (.cells #[.int .i64 0, .slice none 0 0, .int .i64 0, .int .i64 0, .int .i64 0, .slice none 0 0, .int .i64 0, .int .i64 0, .int .i64 0, .int .i64 0, .int .i64 0, .slice none 0 0] 76) = wa6 at HBA hxN6 ⊢
   refine twoStep ?_ ?_
   ·
    have rN1 := OwnF.rd (hf := intFlen) (OwnF.empty intF 1 0 3 wa6 (Nat.zero_le _))
    have hxN1 : Ext wa6 (wa6.alloc (.cells #[] 3)) := (Ext.refl _).alloc _
    refine oneStep (fun K HK => ?_)
    simp only [PK]
    go_wp2_with fail
    refine HK.out _ _ hxN1 ?_
    clear HK K
    generalize wa6.alloc (.cells #[] 3) = wa1 at rN1 hxN1 ⊢
    have rN3 : RdS Rep.byte (wa1.alloc (.cells #[.int .u8 7] 5)) (.slice (some ⟨wa1.heap.size, 0, none⟩) 1 1) [7] := OwnF.rd (hf := byteFlen) (OwnF.lit (f := byteF) (n := 1) byteFlen 0 5 wa1 [7] (Nat.zero_le _) (by simp [maxLen]))
    have hxN3 : Ext wa1 (wa1.alloc (.cells #[.int .u8 7] 5)) := (Ext.refl _).alloc _
    refine oneStep (fun K HK => ?_)
    simp only [PK]
    go_wp2_with fail
    refine HK.out _ _ hxN3 ?_
    clear HK K
    generalize wa1.alloc (.cells #[.int .u8 7] 5) = wa3 at rN3 hxN3 ⊢
    refine oneStep (fun K HK => ?_)
    simp only [PK]
    go_wp2_with fail
    refine (i_NewPacket 1 p _ 0 1 [7] _ _ (rP.ext (((((hx2.trans ((Ext.refl _).drew)).trans hz3).trans hz4).trans hz5).trans (((hxd.trans hxN6).trans hxN1).trans hxN3))) (rN3.ext (Ext.refl _)) (by omega) (by simp)).mono ?_
    rintro e wk1 ⟨u0, u1, rfl, ou, hk1x⟩
    go_wp2_with fail
    refine HK.out _ _ hk1x ?_
    clear HK K
    refine oneStep (fun K HK => ?_)
    simp only [PK]
    go_wp2_with fail
    refine (i_Traverse t _ _ 50 [] _ (newPkt 1 p 0 1 [7]) _ _ _ (rA.ext (((((hx2.trans ((Ext.refl _).drew)).trans hz3).trans hz4).trans hz5).trans ((((hxd.trans hxN6).trans hxN1).trans hxN3).trans hk1x))) (rL.ext (((((hx2.trans ((Ext.refl _).drew)).trans hz3).trans hz4).trans hz5).trans ((((hxd.trans hxN6).trans hxN1).trans hxN3).trans hk1x))) (rN1.ext (hxN3.trans hk1x)) ((Pkt.own_rd0 ou).ext (Ext.refl _)) ((Pkt.own_rd1 ou).ext (Ext.refl _)) hts hl2).mono ?_
    rintro e wk2 ⟨x0, x1, x2, rfl, oo, hk2x⟩
    obtain ⟨tr, htr⟩ : ∃ tr, tr = traverse t 50 [] (newPkt 1 p 0 1 [7]) := ⟨_, rfl⟩
    rw [← htr] at oo ⊢
    have HTR := Lib.hid htr; clear htr
    obtain ⟨b0, d0, rfl, _⟩ := (Trc.own_rd0 oo).shape
    obtain ⟨b1, d1, rfl, _⟩ := (Trc.own_rd1 oo).shape
    obtain ⟨b2, d2, rfl, _⟩ := (Trc.own_rd2 oo).shape
    go_wp2_with fail
    refine HK.out _ _ hk2x ?_
    clear HK K
    have hbs := Ext.block (((hxN1.trans hxN3).trans hk1x).trans hk2x) HBA.out
    have hcs := blk12 hbs
    have hfs0 := fr_of hbs 0
    have hfs1 := fr_of hbs 1
    have hfs2 := fr_of hbs 2
    have hfs3 := fr_of hbs 3
    have hfs4 := fr_of hbs 4
    have hfs5 := fr_of hbs 5
    have hfs6 := fr_of hbs 6
    have hfs7 := fr_of hbs 7
    have hfs8 := fr_of hbs 8
    have hfs9 := fr_of hbs 9
    have hfs10 := fr_of hbs 10
    have hfs11 := fr_of hbs 11
    have HBS := Lib.hid hbs; clear hbs
    refine badStep (by kernel_rfl) (fun K HK => ?_)
    simp only [PK]
    go_wp2_with fail
    refine HK.out _ _ ?_
    clear HK K
    refine doneStep (by kernel_rfl) ?_
    go_wp2_with fail
    go_meet
    obtain ⟨wv, hwv, hbv, hcv, hsv⟩ := vd_set HBS.out (.int .i64 tr.code) ( .slice b0 tr.steps.length d0) ( .int .i64 tr.pkt.kind) ( .int .i64 tr.pkt.src) ( .int .i64 tr.pkt.dst) ( .slice b1 tr.pkt.path.parts.length d1) ( .int .i64 tr.pkt.pi) ( .int .i64 tr.pkt.hi) ( .int .i64 tr.pkt.beta) ( .int .i64 tr.pkt.rid) ( .int .i64 tr.pkt.seq) ( .slice b2 tr.pkt.pay.length d2)
    rw [← hwv]
    have ok := Trc.own_kept (Trc.own_ext oo (Ext.refl _)) hcv (fun k hk (e : k = _) => absurd hk.1 (by rw [e]; exact Nat.not_le.2 (Nat.lt_of_lt_of_le (blk_lt HBA.out) ((hxN1.trans hxN3).trans hk1x).size)))
    exact ⟨_, tr, b0, b1, b2, d0, d1, d2, rfl, HTR, hbv, Trc.own_rd0 ok, Trc.own_rd1 ok, Trc.own_rd2 ok, (((((hxd.trans hxN6).trans hxN1).trans hxN3).trans hk1x).trans hk2x).chg1 hcv hxd.size⟩
   ·
    have rN3 : RdS Rep.byte (wa6.alloc (.cells #[.int .u8 7] 5)) (.slice (some ⟨wa6.heap.size, 0, none⟩) 1 1) [7] := OwnF.rd (hf := byteFlen) (OwnF.lit (f := byteF) (n := 1) byteFlen 0 5 wa6 [7] (Nat.zero_le _) (by simp [maxLen]))
    have hxN3 : Ext wa6 (wa6.alloc (.cells #[.int .u8 7] 5)) := (Ext.refl _).alloc _
    refine oneStep (fun K HK => ?_)
    simp only [PK]
    go_wp2_with fail
    refine HK.out _ _ hxN3 ?_
    clear HK K
    generalize wa6.alloc (.cells #[.int .u8 7] 5) = wa3 at rN3 hxN3 ⊢
    refine twoStep ?_ ?_
    ·
     have rN1 := OwnF.rd (hf := intFlen) (OwnF.empty intF 1 0 3 wa3 (Nat.zero_le _))
     have hxN1 : Ext wa3 (wa3.alloc (.cells #[] 3)) := (Ext.refl _).alloc _
     refine oneStep (fun K HK => ?_)
     simp only [PK]
     go_wp2_with fail
     refine HK.out _ _ hxN1 ?_
     clear HK K
     generalize wa3.alloc (.cells #[] 3) = wa1 at rN1 hxN1 ⊢
     refine oneStep (fun K HK => ?_)
     simp only [PK]
     go_wp2_with fail
     refine (i_NewPacket 1 p _ 0 1 [7] _ _ (rP.ext (((((hx2.trans ((Ext.refl _).drew)).trans hz3).trans hz4).trans hz5).trans (((hxd.trans hxN6).trans hxN3).trans hxN1))) (rN3.ext hxN1) (by omega) (by simp)).mono ?_
     rintro e wk1 ⟨u0, u1, rfl, ou, hk1x⟩
     go_wp2_with fail
     refine HK.out _ _ hk1x ?_
     clear HK K
     refine oneStep (fun K HK => ?_)
     simp only [PK]
     go_wp2_with fail
     refine (i_Traverse t _ _ 50 [] _ (newPkt 1 p 0 1 [7]) _ _ _ (rA.ext (((((hx2.trans ((Ext.refl _).drew)).trans hz3).trans hz4).trans hz5).trans ((((hxd.trans hxN6).trans hxN3).trans hxN1).trans hk1x))) (rL.ext (((((hx2.trans ((Ext.refl _).drew)).trans hz3).trans hz4).trans hz5).trans ((((hxd.trans hxN6).trans hxN3).trans hxN1).trans hk1x))) (rN1.ext hk1x) ((Pkt.own_rd0 ou).ext (Ext.refl _)) ((Pkt.own_rd1 ou).ext (Ext.refl _)) hts hl2).mono ?_
     rintro e wk2 ⟨x0, x1, x2, rfl, oo, hk2x⟩
     obtain ⟨tr, htr⟩ : ∃ tr, tr = traverse t 50 [] (newPkt 1 p 0 1 [7]) := ⟨_, rfl⟩
     rw [← htr] at oo ⊢
     have HTR := Lib.hid htr; clear htr
     obtain ⟨b0, d0, rfl, _⟩ := (Trc.own_rd0 oo).shape
     obtain ⟨b1, d1, rfl, _⟩ := (Trc.own_rd1 oo).shape
     obtain ⟨b2, d2, rfl, _⟩ := (Trc.own_rd2 oo).shape
     go_wp2_with fail
     refine HK.out _ _ hk2x ?_
     clear HK K
     have hbs := Ext.block (((hxN3.trans hxN1).trans hk1x).trans hk2x) HBA.out
     have hcs := blk12 hbs
     have hfs0 := fr_of hbs 0
     have hfs1 := fr_of hbs 1
     have hfs2 := fr_of hbs 2
     have hfs3 := fr_of hbs 3
     have hfs4 := fr_of hbs 4
     have hfs5 := fr_of hbs 5
     have hfs6 := fr_of hbs 6
     have hfs7 := fr_of hbs 7
     have hfs8 := fr_of hbs 8
     have hfs9 := fr_of hbs 9
     have hfs10 := fr_of hbs 10
     have hfs11 := fr_of hbs 11
     have HBS := Lib.hid hbs; clear hbs
     refine badStep (by kernel_rfl) (fun K HK => ?_)
     simp only [PK]
     go_wp2_with fail
     refine HK.out _ _ ?_
     clear HK K
     refine doneStep (by kernel_rfl) ?_
     go_wp2_with fail
     go_meet
     obtain ⟨wv, hwv, hbv, hcv, hsv⟩ := vd_set HBS.out (.int .i64 tr.code) ( .slice b0 tr.steps.length d0) ( .int .i64 tr.pkt.kind) ( .int .i64 tr.pkt.src) ( .int .i64 tr.pkt.dst) ( .slice b1 tr.pkt.path.parts.length d1) ( .int .i64 tr.pkt.pi) ( .int .i64 tr.pkt.hi) ( .int .i64 tr.pkt.beta) ( .int .i64 tr.pkt.rid) ( .int .i64 tr.pkt.seq) ( .slice b2 tr.pkt.pay.length d2)
     rw [← hwv]
     have ok := Trc.own_kept (Trc.own_ext oo (Ext.refl _)) hcv (fun k hk (e : k = _) => absurd hk.1 (by rw [e]; exact Nat.not_le.2 (Nat.lt_of_lt_of_le (blk_lt HBA.out) ((hxN3.trans hxN1).trans hk1x).size)))
     exact ⟨_, tr, b0, b1, b2, d0, d1, d2, rfl, HTR, hbv, Trc.own_rd0 ok, Trc.own_rd1 ok, Trc.own_rd2 ok, (((((hxd.trans hxN6).trans hxN3).trans hxN1).trans hk1x).trans hk2x).chg1 hcv hxd.size⟩
    ·
     refine oneStep (fun K HK => ?_)
     simp only [PK]
     go_wp2_with fail
     refine (i_NewPacket 1 p _ 0 1 [7] _ _ (rP.ext (((((hx2.trans ((Ext.refl _).drew)).trans hz3).trans hz4).trans hz5).trans ((hxd.trans hxN6).trans hxN3))) (rN3.ext (Ext.refl _)) (by omega) (by simp)).mono ?_
     rintro e wk1 ⟨u0, u1, rfl, ou, hk1x⟩
     go_wp2_with fail
     refine HK.out _ _ hk1x ?_
     clear HK K
     have rN1 := OwnF.rd (hf := intFlen) (OwnF.empty intF 1 0 3 wk1 (Nat.zero_le _))
     have hxN1 : Ext wk1 (wk1.alloc (.cells #[] 3)) := (Ext.refl _).alloc _
     refine oneStep (fun K HK => ?_)
     simp only [PK]
     go_wp2_with fail
     refine HK.out _ _ hxN1 ?_
     clear HK K
     generalize wk1.alloc (.cells #[] 3) = wa1 at rN1 hxN1 ⊢
     refine oneStep (fun K HK => ?_)
     simp only [PK]
     go_wp2_with fail
     refine (i_Traverse t _ _ 50 [] _ (newPkt 1 p 0 1 [7]) _ _ _ (rA.ext (((((hx2.trans ((Ext.refl _).drew)).trans hz3).trans hz4).trans hz5).trans ((((hxd.trans hxN6).trans hxN3).trans hk1x).trans hxN1))) (rL.ext (((((hx2.trans ((Ext.refl _).drew)).trans hz3).trans hz4).trans hz5).trans ((((hxd.trans hxN6).trans hxN3).trans hk1x).trans hxN1))) (rN1.ext (Ext.refl _)) ((Pkt.own_rd0 ou).ext hxN1) ((Pkt.own_rd1 ou).ext hxN1) hts hl2).mono ?_
     rintro e wk2 ⟨x0, x1, x2, rfl, oo, hk2x⟩
     obtain ⟨tr, htr⟩ : ∃ tr, tr = traverse t 50 [] (newPkt 1 p 0 1 [7]) := ⟨_, rfl⟩
     rw [← htr] at oo ⊢
     have HTR := Lib.hid htr; clear htr
     obtain ⟨b0, d0, rfl, _⟩ := (Trc.own_rd0 oo).shape
     obtain ⟨b1, d1, rfl, _⟩ := (Trc.own_rd1 oo).shape
     obtain ⟨b2, d2, rfl, _⟩ := (Trc.own_rd2 oo).shape
     go_wp2_with fail
     refine HK.out _ _ hk2x ?_
     clear HK K
     have hbs := Ext.block (((hxN3.trans hk1x).trans hxN1).trans hk2x) HBA.out
     have hcs := blk12 hbs
     have hfs0 := fr_of hbs 0
     have hfs1 := fr_of hbs 1
     have hfs2 := fr_of hbs 2
     have hfs3 := fr_of hbs 3
     have hfs4 := fr_of hbs 4
     have hfs5 := fr_of hbs 5
     have hfs6 := fr_of hbs 6
     have hfs7 := fr_of hbs 7
     have hfs8 := fr_of hbs 8
     have hfs9 := fr_of hbs 9
     have hfs10 := fr_of hbs 10
     have hfs11 := fr_of hbs 11
     have HBS := Lib.hid hbs; clear hbs
     refine badStep (by kernel_rfl) (fun K HK => ?_)
     simp only [PK]
     go_wp2_with fail
     refine HK.out _ _ ?_
     clear HK K
     refine doneStep (by kernel_rfl) ?_
     go_wp2_with fail
     go_meet
     obtain ⟨wv, hwv, hbv, hcv, hsv⟩ := vd_set HBS.out (.int .i64 tr.code) ( .slice b0 tr.steps.length d0) ( .int .i64 tr.pkt.kind) ( .int .i64 tr.pkt.src) ( .int .i64 tr.pkt.dst) ( .slice b1 tr.pkt.path.parts.length d1) ( .int .i64 tr.pkt.pi) ( .int .i64 tr.pkt.hi) ( .int .i64 tr.pkt.beta) ( .int .i64 tr.pkt.rid) ( .int .i64 tr.pkt.seq) ( .slice b2 tr.pkt.pay.length d2)
     rw [← hwv]
     have ok := Trc.own_kept (Trc.own_ext oo (Ext.refl _)) hcv (fun k hk (e : k = _) => absurd hk.1 (by rw [e]; exact Nat.not_le.2 (Nat.lt_of_lt_of_le (blk_lt HBA.out) ((hxN3.trans hk1x).trans hxN1).size)))
     exact ⟨_, tr, b0, b1, b2, d0, d1, d2, rfl, HTR, hbv, Trc.own_rd0 ok, Trc.own_rd1 ok, Trc.own_rd2 ok, (((((hxd.trans hxN6).trans hxN3).trans hk1x).trans hxN1).trans hk2x).chg1 hcv hxd.size⟩
 case rest =>
  obtain ⟨bk1, tr1, b10, b11, b12, d10, d11, d12, rfl, HTR1, hbt, rS1, rP1, rY1, hxt1⟩ := hcut
  obtain ⟨wt1, hwt⟩ : ∃ wt : World, wt = wc := ⟨_, rfl⟩
  subst hwt
  have HBT1 := Lib.hid hbt
  clear hbt
  have hl2 : (newPkt 1 p 0 1 [7]).size ≤ 1048576 := by rw [newPkt_size]; simp; omega
  have htz1 : tr1.size ≤ 1048576 := by rw [HTR1.out]; have h1 := traverse_size t 50 [] (newPkt 1 p 0 1 [7]); have h2 : (newPkt 1 p 0 1 [7]).size ≤ 100 := (by rw [newPkt_size]; simp; omega); omega
  cases hcd : (tr1.code != 1)
  ·
   have LAW := replies TK PDr (kind := 1) (seq := 1) (pay := [7]) (by omega) (by omega) (by simp) (now := 50) (by rw [← HTR1.out]; simpa using hcd)
   rw [← HTR1.out] at LAW
   have HL := Lib.hid LAW
   clear LAW
   have h1s : tr1.pkt.size ≤ 1048576 := by unfold Trc.size at htz1; omega
   try clear cf14
   try clear cf15
   try clear cf16
   have cf17 := blk10 (Ext.block ((((((hz2.trans hx2).trans ((Ext.refl _).drew)).trans hz3).trans hz4).trans hz5).trans hxt1) HB1.out)
   have cf18 := blk2 (Ext.block ((((((Ext.refl _).drew).trans hz3).trans hz4).trans hz5).trans hxt1) HB2.out.1)
   have cf19 := blk1 (Ext.block ((((((Ext.refl _).drew).trans hz3).trans hz4).trans hz5).trans hxt1) HB2.out.2)
   have cf20 := blk12 HBT1.out
   go_wp2_with fail
   refine (i_Reply tr1.pkt _ _ 2 1 [] _ _ (rP1.ext ((Ext.refl _).alloc _)) (rY1.ext ((Ext.refl _).alloc _)) (by exact OwnF.rd (hf := byteFlen) (OwnF.emptyAt (f := byteF) (n := 1) (base := 0) (e := 5) (by simp) (Nat.zero_le _))) (by omega) (by simp)).mono ?_
   rintro e w6 ⟨a0, a1, rfl, OX, hz6⟩
   obtain ⟨q, hq⟩ : ∃ q, q = reply tr1.pkt 2 1 [] := ⟨_, rfl⟩
   rw [← hq] at OX ⊢
   have hq2 := hq.trans HL.out.1
   have hqs : q.size ≤ 1048576 := by rw [hq2, newPkt_size, revPath_size]; simp; omega
   have HQ := Lib.hid hq2
   clear hq hq2
   have rq0 := Pkt.own_rd0 OX
   have rq1 := Pkt.own_rd1 OX
   clear OX
   obtain ⟨qq0, dq0, rfl, _⟩ := rq0.shape
   obtain ⟨qq1, dq1, rfl, _⟩ := rq1.shape
   have hx4 : Ext w6 (w6.alloc (.cells #[.int .i64 q.kind, .int .i64 q.src, .int .i64 q.dst, .slice qq0 q.path.parts.length dq0, .int .i64 q.pi, .int .i64 q.hi, .int .i64 q.beta, .int .i64 q.rid, .int .i64 q.seq, .slice qq1 q.pay.length dq1] 28)) := (Ext.refl _).alloc _
   have HB4 := Lib.hid (blk_new w6 (.cells #[.int .i64 q.kind, .int .i64 q.src, .int .i64 q.dst, .slice qq0 q.path.parts.length dq0, .int .i64 q.pi, .int .i64 q.hi, .int .i64 q.beta, .int .i64 q.rid, .int .i64 q.seq, .slice qq1 q.pay.length dq1] 28))
   try clear cf17
   try clear cf18
   try clear cf19
   try clear cf20
   have cf21 := blk10 (Ext.block (((((((((hz2.trans hx2).trans ((Ext.refl _).drew)).trans hz3).trans hz4).trans hz5).trans hxt1).trans ((Ext.refl _).alloc _)).trans hz6).trans hx4) HB1.out)
   have cf22 := blk2 (Ext.block (((((((((Ext.refl _).drew).trans hz3).trans hz4).trans hz5).trans hxt1).trans ((Ext.refl _).alloc _)).trans hz6).trans hx4) HB2.out.1)
   have cf23 := blk1 (Ext.block (((((((((Ext.refl _).drew).trans hz3).trans hz4).trans hz5).trans hxt1).trans ((Ext.refl _).alloc _)).trans hz6).trans hx4) HB2.out.2)
   have cf24 := blk12 (Ext.block ((((Ext.refl _).alloc _).trans hz6).trans hx4) HBT1.out)
   have cf25 := blk10 HB4.out
   go_wp2_with fail
   refine (i_Traverse t _ _ 50 [] _ q _ _ _ (rA.ext (((((((((hx2.trans ((Ext.refl _).drew)).trans hz3).trans hz4).trans hz5).trans hxt1).trans ((Ext.refl _).alloc _)).trans hz6).trans hx4).trans ((Ext.refl _).alloc _))) (rL.ext (((((((((hx2.trans ((Ext.refl _).drew)).trans hz3).trans hz4).trans hz5).trans hxt1).trans ((Ext.refl _).alloc _)).trans hz6).trans hx4).trans ((Ext.refl _).alloc _))) (by exact OwnF.rd (hf := intFlen) (OwnF.emptyAt (f := intF) (n := 1) (base := 0) (e := 3) (by simp) (Nat.zero_le _))) (rq0.ext (hx4.trans ((Ext.refl _).alloc _))) (rq1.ext (hx4.trans ((Ext.refl _).alloc _))) hts hqs).mono ?_
   rintro e w7 ⟨y0, y1, y2, rfl, OT, hz7⟩
   obtain ⟨z, hz⟩ : ∃ z, z = traverse t 50 [] q := ⟨_, rfl⟩
   rw [← hz] at OT ⊢
   have HZ2 := Lib.hid hz
   clear hz
   have rS := Trc.own_rd0 OT
   have rP9 := Trc.own_rd1 OT
   have rY9 := Trc.own_rd2 OT
   clear OT
   obtain ⟨o_sz, c_sz, rfl, _⟩ := rS.shape
   obtain ⟨o_0z, c_0z, rfl, _⟩ := rP9.shape
   obtain ⟨o_1z, c_1z, rfl, _⟩ := rY9.shape
   have hx5 : Ext w7 (w7.alloc (.cells #[.int .i64 z.code, .slice o_sz z.steps.length c_sz, .int .i64 z.pkt.kind, .int .i64 z.pkt.src, .int .i64 z.pkt.dst, .slice o_0z z.pkt.path.parts.length c_0z, .int .i64 z.pkt.pi, .int .i64 z.pkt.hi, .int .i64 z.pkt.beta, .int .i64 z.pkt.rid, .int .i64 z.pkt.seq, .slice o_1z z.pkt.pay.length c_1z] 76)) := (Ext.refl _).alloc _
   have HB5 := Lib.hid (blk_new w7 (.cells #[.int .i64 z.code, .slice o_sz z.steps.length c_sz, .int .i64 z.pkt.kind, .int .i64 z.pkt.src, .int .i64 z.pkt.dst, .slice o_0z z.pkt.path.parts.length c_0z, .int .i64 z.pkt.pi, .int .i64 z.pkt.hi, .int .i64 z.pkt.beta, .int .i64 z.pkt.rid, .int .i64 z.pkt.seq, .slice o_1z z.pkt.pay.length c_1z] 76))
   try clear cf21
   try clear cf22
   try clear cf23
   try clear cf24
   try clear cf25
   have cf26 := blk10 (Ext.block ((((((((((((hz2.trans hx2).trans ((Ext.refl _).drew)).trans hz3).trans hz4).trans hz5).trans hxt1).trans ((Ext.refl _).alloc _)).trans hz6).trans hx4).trans ((Ext.refl _).alloc _)).trans hz7).trans hx5) HB1.out)
   have cf27 := blk2 (Ext.block ((((((((((((Ext.refl _).drew).trans hz3).trans hz4).trans hz5).trans hxt1).trans ((Ext.refl _).alloc _)).trans hz6).trans hx4).trans ((Ext.refl _).alloc _)).trans hz7).trans hx5) HB2.out.1)
   have cf28 := blk1 (Ext.block ((((((((((((Ext.refl _).drew).trans hz3).trans hz4).trans hz5).trans hxt1).trans ((Ext.refl _).alloc _)).trans hz6).trans hx4).trans ((Ext.refl _).alloc _)).trans hz7).trans hx5) HB2.out.2)
   have cf29 := blk12 (Ext.block (((((((Ext.refl _).alloc _).trans hz6).trans hx4).trans ((Ext.refl _).alloc _)).trans hz7).trans hx5) HBT1.out)
   have cf30 := blk10 (Ext.block ((((Ext.refl _).alloc _).trans hz7).trans hx5) HB4.out)
   have cf31 := blk12 HB5.out
   go_wp2_with fail
   refine (i_Endpoints p _ _ (rP.ext (((((((((((hx2.trans ((Ext.refl _).drew)).trans hz3).trans hz4).trans hz5).trans hxt1).trans ((Ext.refl _).alloc _)).trans hz6).trans hx4).trans ((Ext.refl _).alloc _)).trans hz7).trans hx5)) (by omega)).mono ?_
   rintro e w8 ⟨rfl, hz8⟩
   have hne1 : (q.src != (ends p.parts).2) = false := by rw [HQ.out, HL.out.2.1]; simp
   have hne2 : (q.dst != (ends p.parts).1) = false := by rw [HQ.out, HL.out.2.2.1]; simp
   try clear cf26
   try clear cf27
   try clear cf28
   try clear cf29
   try clear cf30
   try clear cf31
   have cf32 := blk10 (Ext.block (((((((((((((hz2.trans hx2).trans ((Ext.refl _).drew)).trans hz3).trans hz4).trans hz5).trans hxt1).trans ((Ext.refl _).alloc _)).trans hz6).trans hx4).trans ((Ext.refl _).alloc _)).trans hz7).trans hx5).trans hz8) HB1.out)
   have cf33 := blk2 (Ext.block (((((((((((((Ext.refl _).drew).trans hz3).trans hz4).trans hz5).trans hxt1).trans ((Ext.refl _).alloc _)).trans hz6).trans hx4).trans ((Ext.refl _).alloc _)).trans hz7).trans hx5).trans hz8) HB2.out.1)
   have cf34 := blk1 (Ext.block (((((((((((((Ext.refl _).drew).trans hz3).trans hz4).trans hz5).trans hxt1).trans ((Ext.refl _).alloc _)).trans hz6).trans hx4).trans ((Ext.refl _).alloc _)).trans hz7).trans hx5).trans hz8) HB2.out.2)
   have cf35 := blk12 (Ext.block ((((((((Ext.refl _).alloc _).trans hz6).trans hx4).trans ((Ext.refl _).alloc _)).trans hz7).trans hx5).trans hz8) HBT1.out)
   have cf36 := blk10 (Ext.block (((((Ext.refl _).alloc _).trans hz7).trans hx5).trans hz8) HB4.out)
   have cf37 := blk12 (Ext.block hz8 HB5.out)
   go_wp2_with fail
   refine planStep (.blk [0, 1] (.one 2 (.one 3 (.blk [4, 5] (.blk [6, 7, 8, 9, 10, 11, 12, 13] (.one 14 (.one 15 (.blk [16, 17, 18] .done)))))))) [] (by kernel_rfl) (by kernel_rfl) ?_
   try clear cf32
   try clear cf33
   try clear cf34
   try clear cf35
   try clear cf36
   try clear cf37
   have cf38 := blk10 (Ext.block ((((((((((((((hz2.trans hx2).trans ((Ext.refl _).drew)).trans hz3).trans hz4).trans hz5).trans hxt1).trans ((Ext.refl _).alloc _)).trans hz6).trans hx4).trans ((Ext.refl _).alloc _)).trans hz7).trans hx5).trans hz8).trans ((Ext.refl _).drew)) HB1.out)
   have cf39 := blk2 (Ext.block ((((((((((((((Ext.refl _).drew).trans hz3).trans hz4).trans hz5).trans hxt1).trans ((Ext.refl _).alloc _)).trans hz6).trans hx4).trans ((Ext.refl _).alloc _)).trans hz7).trans hx5).trans hz8).trans ((Ext.refl _).drew)) HB2.out.1)
   have cf40 := blk1 (Ext.block ((((((((((((((Ext.refl _).drew).trans hz3).trans hz4).trans hz5).trans hxt1).trans ((Ext.refl _).alloc _)).trans hz6).trans hx4).trans ((Ext.refl _).alloc _)).trans hz7).trans hx5).trans hz8).trans ((Ext.refl _).drew)) HB2.out.2)
   have cf41 := blk12 (Ext.block (((((((((Ext.refl _).alloc _).trans hz6).trans hx4).trans ((Ext.refl _).alloc _)).trans hz7).trans hx5).trans hz8).trans ((Ext.refl _).drew)) HBT1.out)
   have cf42 := blk10 (Ext.block ((((((Ext.refl _).alloc _).trans hz7).trans hx5).trans hz8).trans ((Ext.refl _).drew)) HB4.out)
   have cf43 := blk12 (Ext.block (hz8.trans ((Ext.refl _).drew)) HB5.out)
   refine blkStep (fun K HK => ?_)
   simp only [PK]
   go_wp2_with fail
   refine HK.out _ _ ?_
   clear HK K
   refine oneStep (fun K HK => ?_)
   simp only [PK]
   go_wp2_with fail
   refine (i_ReversePath p _ _ (rP.ext (((((((((((((hx2.trans ((Ext.refl _).drew)).trans hz3).trans hz4).trans hz5).trans hxt1).trans ((Ext.refl _).alloc _)).trans hz6).trans hx4).trans ((Ext.refl _).alloc _)).trans hz7).trans hx5).trans hz8).trans ((Ext.refl _).drew))) (by omega)).mono ?_
   rintro e w9 ⟨ur, rfl, OR, hz9⟩
   have rR := Part.ord OR
   clear OR
   obtain ⟨pr, hpr⟩ : ∃ pr, pr = revPath p := ⟨_, rfl⟩
   rw [← hpr] at rR
   have hprs : pr.size ≤ 1048576 := by rw [hpr, revPath_size]; omega
   have HPR := Lib.hid hpr
   clear hpr
   obtain ⟨o_r, c_r, rfl, _⟩ := rR.shape
   try clear cf38
   try clear cf39
   try clear cf40
   try clear cf41
   try clear cf42
   try clear cf43
   have cf44 := blk10 (Ext.block (((((((((((((((hz2.trans hx2).trans ((Ext.refl _).drew)).trans hz3).trans hz4).trans hz5).trans hxt1).trans ((Ext.refl _).alloc _)).trans hz6).trans hx4).trans ((Ext.refl _).alloc _)).trans hz7).trans hx5).trans hz8).trans ((Ext.refl _).drew)).trans hz9) HB1.out)
   have cf45 := blk2 (Ext.block (((((((((((((((Ext.refl _).drew).trans hz3).trans hz4).trans hz5).trans hxt1).trans ((Ext.refl _).alloc _)).trans hz6).trans hx4).trans ((Ext.refl _).alloc _)).trans hz7).trans hx5).trans hz8).trans ((Ext.refl _).drew)).trans hz9) HB2.out.1)
   have cf46 := blk1 (Ext.block (((((((((((((((Ext.refl _).drew).trans hz3).trans hz4).trans hz5).trans hxt1).trans ((Ext.refl _).alloc _)).trans hz6).trans hx4).trans ((Ext.refl _).alloc _)).trans hz7).trans hx5).trans hz8).trans ((Ext.refl _).drew)).trans hz9) HB2.out.2)
   have cf47 := blk12 (Ext.block ((((((((((Ext.refl _).alloc _).trans hz6).trans hx4).trans ((Ext.refl _).alloc _)).trans hz7).trans hx5).trans hz8).trans ((Ext.refl _).drew)).trans hz9) HBT1.out)
   have cf48 := blk10 (Ext.block (((((((Ext.refl _).alloc _).trans hz7).trans hx5).trans hz8).trans ((Ext.refl _).drew)).trans hz9) HB4.out)
   have cf49 := blk12 (Ext.block ((hz8.trans ((Ext.refl _).drew)).trans hz9) HB5.out)
   go_wp2_with fail
   refine HK.out _ _ hz9 ?_
   clear HK K
   refine oneStep (fun K HK => ?_)
   simp only [PK]
   go_wp2_with fail
   refine (i_PathAllowed t _ _ pr _ _ (rL.ext ((((((((((((((hx2.trans ((Ext.refl _).drew)).trans hz3).trans hz4).trans hz5).trans hxt1).trans ((Ext.refl _).alloc _)).trans hz6).trans hx4).trans ((Ext.refl _).alloc _)).trans hz7).trans hx5).trans hz8).trans ((Ext.refl _).drew)).trans hz9)) (rR.ext (Ext.refl _)) hprs).mono ?_
   rintro e w10 ⟨ba, rfl, hba, hz10⟩
   try clear cf44
   try clear cf45
   try clear cf46
   try clear cf47
   try clear cf48
   try clear cf49
   have cf50 := blk10 (Ext.block ((((((((((((((((hz2.trans hx2).trans ((Ext.refl _).drew)).trans hz3).trans hz4).trans hz5).trans hxt1).trans ((Ext.refl _).alloc _)).trans hz6).trans hx4).trans ((Ext.refl _).alloc _)).trans hz7).trans hx5).trans hz8).trans ((Ext.refl _).drew)).trans hz9).trans hz10) HB1.out)
   have cf51 := blk2 (Ext.block ((((((((((((((((Ext.refl _).drew).trans hz3).trans hz4).trans hz5).trans hxt1).trans ((Ext.refl _).alloc _)).trans hz6).trans hx4).trans ((Ext.refl _).alloc _)).trans hz7).trans hx5).trans hz8).trans ((Ext.refl _).drew)).trans hz9).trans hz10) HB2.out.1)
   have cf52 := blk1 (Ext.block ((((((((((((((((Ext.refl _).drew).trans hz3).trans hz4).trans hz5).trans hxt1).trans ((Ext.refl _).alloc _)).trans hz6).trans hx4).trans ((Ext.refl _).alloc _)).trans hz7).trans hx5).trans hz8).trans ((Ext.refl _).drew)).trans hz9).trans hz10) HB2.out.2)
   have cf53 := blk12 (Ext.block (((((((((((Ext.refl _).alloc _).trans hz6).trans hx4).trans ((Ext.refl _).alloc _)).trans hz7).trans hx5).trans hz8).trans ((Ext.refl _).drew)).trans hz9).trans hz10) HBT1.out)
   have cf54 := blk10 (Ext.block ((((((((Ext.refl _).alloc _).trans hz7).trans hx5).trans hz8).trans ((Ext.refl _).drew)).trans hz9).trans hz10) HB4.out)
   have cf55 := blk12 (Ext.block (((hz8.trans ((Ext.refl _).drew)).trans hz9).trans hz10) HB5.out)
   go_wp2_with fail
   refine HK.out _ _ hz10 ?_
   clear HK K
   cases hq : ba
   ·
    clear hba hq
    refine blkStep (fun K HK => ?_)
    simp only [PK]
    go_wp2_with fail
    refine HK.out _ _ ?_
    clear HK K
    refine blkSkipR [78, 79, 80, 81, 82, 83, 84, 85] (by kernel_rfl) ?_
    simp only [undefs, Act.put, List.setIfInBounds_toArray, List.set_cons_succ, List.set_cons_zero]
    refine oneSkip [86] (by kernel_rfl) ?_
    simp only [undefs, Act.put, List.setIfInBounds_toArray, List.set_cons_succ, List.set_cons_zero]
    refine oneSkip [87] (by kernel_rfl) ?_
    simp only [undefs, Act.put, List.setIfInBounds_toArray, List.set_cons_succ, List.set_cons_zero]
    refine blkStep (fun K HK => ?_)
    simp only [PK]
    go_wp2_with fail
    refine HK.out _ _ ?_
    clear HK K
    refine doneStep (by kernel_rfl) ?_
    go_wp2_with fail
    go_ret
    exact ⟨rfl, ((((((((((((((((((hz1.trans hx1).trans hz2).trans hx2).trans ((Ext.refl _).drew)).trans hz3).trans hz4).trans hz5).trans hxt1).trans ((Ext.refl _).alloc _)).trans hz6).trans hx4).trans ((Ext.refl _).alloc _)).trans hz7).trans hx5).trans hz8).trans ((Ext.refl _).drew)).trans hz9).trans hz10)⟩
   ·
    have HB := HL.out.2.2.2 (by rw [← HPR.out]; exact hba.1 hq)
    rw [← HQ.out, ← HZ2.out] at HB
    have hcd2 : (z.code == 1) = true := by rw [HB.1]; rfl
    have HSS := Lib.hid (show decide (z.steps = revSteps tr1.steps) = true from decide_eq_true HB.2)
    clear HB hba hq
    refine blkStep (fun K HK => ?_)
    simp only [PK]
    go_wp2_with fail
    refine HK.out _ _ ?_
    clear HK K
    refine blkStep (fun K HK => ?_)
    simp only [PK]
    go_wp2_with fail
    refine HK.out _ _ ?_
    clear HK K
    refine oneStep (fun K HK => ?_)
    simp only [PK]
    go_wp2_with fail
    refine (i_ReverseSteps tr1.steps _ _ (rS1.ext (((((((((((Ext.refl _).alloc _).trans hz6).trans hx4).trans ((Ext.refl _).alloc _)).trans hz7).trans hx5).trans hz8).trans ((Ext.refl _).drew)).trans hz9).trans hz10)) (by unfold Trc.size at htz1; omega)).mono ?_
    rintro e w11 ⟨vS, rfl, OS, hz11⟩
    have rS9 := OwnF.rd (hf := Step.flen) OS
    clear OS
    obtain ⟨o_9, c_9, rfl, _⟩ := rS9.shape
    try clear cf50
    try clear cf51
    try clear cf52
    try clear cf53
    try clear cf54
    try clear cf55
    have cf56 := blk10 (Ext.block (((((((((((((((((hz2.trans hx2).trans ((Ext.refl _).drew)).trans hz3).trans hz4).trans hz5).trans hxt1).trans ((Ext.refl _).alloc _)).trans hz6).trans hx4).trans ((Ext.refl _).alloc _)).trans hz7).trans hx5).trans hz8).trans ((Ext.refl _).drew)).trans hz9).trans hz10).trans hz11) HB1.out)
    have cf57 := blk2 (Ext.block (((((((((((((((((Ext.refl _).drew).trans hz3).trans hz4).trans hz5).trans hxt1).trans ((Ext.refl _).alloc _)).trans hz6).trans hx4).trans ((Ext.refl _).alloc _)).trans hz7).trans hx5).trans hz8).trans ((Ext.refl _).drew)).trans hz9).trans hz10).trans hz11) HB2.out.1)
    have cf58 := blk1 (Ext.block (((((((((((((((((Ext.refl _).drew).trans hz3).trans hz4).trans hz5).trans hxt1).trans ((Ext.refl _).alloc _)).trans hz6).trans hx4).trans ((Ext.refl _).alloc _)).trans hz7).trans hx5).trans hz8).trans ((Ext.refl _).drew)).trans hz9).trans hz10).trans hz11) HB2.out.2)
    have cf59 := blk12 (Ext.block ((((((((((((Ext.refl _).alloc _).trans hz6).trans hx4).trans ((Ext.refl _).alloc _)).trans hz7).trans hx5).trans hz8).trans ((Ext.refl _).drew)).trans hz9).trans hz10).trans hz11) HBT1.out)
    have cf60 := blk10 (Ext.block (((((((((Ext.refl _).alloc _).trans hz7).trans hx5).trans hz8).trans ((Ext.refl _).drew)).trans hz9).trans hz10).trans hz11) HB4.out)
    have cf61 := blk12 (Ext.block ((((hz8.trans ((Ext.refl _).drew)).trans hz9).trans hz10).trans hz11) HB5.out)
    go_wp2_with fail
    refine HK.out _ _ hz11 ?_
    clear HK K
    refine oneStep (fun K HK => ?_)
    simp only [PK]
    go_wp2_with fail
    refine (l_sameSteps z.steps _ (revSteps tr1.steps) _ _ (rS.ext (((((hx5.trans hz8).trans ((Ext.refl _).drew)).trans hz9).trans hz10).trans hz11)) (rS9.ext (Ext.refl _))).mono ?_
    rintro e w12 ⟨rfl, hz12⟩
    rw [HSS.out]
    try clear cf56
    try clear cf57
    try clear cf58
    try clear cf59
    try clear cf60
    try clear cf61
    have cf62 := blk10 (Ext.block ((((((((((((((((((hz2.trans hx2).trans ((Ext.refl _).drew)).trans hz3).trans hz4).trans hz5).trans hxt1).trans ((Ext.refl _).alloc _)).trans hz6).trans hx4).trans ((Ext.refl _).alloc _)).trans hz7).trans hx5).trans hz8).trans ((Ext.refl _).drew)).trans hz9).trans hz10).trans hz11).trans hz12) HB1.out)
    have cf63 := blk2 (Ext.block ((((((((((((((((((Ext.refl _).drew).trans hz3).trans hz4).trans hz5).trans hxt1).trans ((Ext.refl _).alloc _)).trans hz6).trans hx4).trans ((Ext.refl _).alloc _)).trans hz7).trans hx5).trans hz8).trans ((Ext.refl _).drew)).trans hz9).trans hz10).trans hz11).trans hz12) HB2.out.1)
    have cf64 := blk1 (Ext.block ((((((((((((((((((Ext.refl _).drew).trans hz3).trans hz4).trans hz5).trans hxt1).trans ((Ext.refl _).alloc _)).trans hz6).trans hx4).trans ((Ext.refl _).alloc _)).trans hz7).trans hx5).trans hz8).trans ((Ext.refl _).drew)).trans hz9).trans hz10).trans hz11).trans hz12) HB2.out.2)
    have cf65 := blk12 (Ext.block (((((((((((((Ext.refl _).alloc _).trans hz6).trans hx4).trans ((Ext.refl _).alloc _)).trans hz7).trans hx5).trans hz8).trans ((Ext.refl _).drew)).trans hz9).trans hz10).trans hz11).trans hz12) HBT1.out)
    have cf66 := blk10 (Ext.block ((((((((((Ext.refl _).alloc _).trans hz7).trans hx5).trans hz8).trans ((Ext.refl _).drew)).trans hz9).trans hz10).trans hz11).trans hz12) HB4.out)
    have cf67 := blk12 (Ext.block (((((hz8.trans ((Ext.refl _).drew)).trans hz9).trans hz10).trans hz11).trans hz12) HB5.out)
    go_wp2_with fail
    refine HK.out _ _ hz12 ?_
    clear HK K
    refine blkStep (fun K HK => ?_)
    simp only [PK]
    go_wp2_with fail
    refine HK.out _ _ ?_
    clear HK K
    refine doneStep (by kernel_rfl) ?_
    go_wp2_with fail
    go_ret
    exact ⟨rfl, ((((((((((((((((((((hz1.trans hx1).trans hz2).trans hx2).trans ((Ext.refl _).drew)).trans hz3).trans hz4).trans hz5).trans hxt1).trans ((Ext.refl _).alloc _)).trans hz6).trans hx4).trans ((Ext.refl _).alloc _)).trans hz7).trans hx5).trans hz8).trans ((Ext.refl _).drew)).trans hz9).trans hz10).trans hz11).trans hz12)⟩
  ·
   try clear cf14
   try clear cf15
   try clear cf16
   have cf68 := blk10 (Ext.block ((((((hz2.trans hx2).trans ((Ext.refl _).drew)).trans hz3).trans hz4).trans hz5).trans hxt1) HB1.out)
   have cf69 := blk2 (Ext.block ((((((Ext.refl _).drew).trans hz3).trans hz4).trans hz5).trans hxt1) HB2.out.1)
   have cf70 := blk1 (Ext.block ((((((Ext.refl _).drew).trans hz3).trans hz4).trans hz5).trans hxt1) HB2.out.2)
   have cf71 := blk12 HBT1.out
   go_wp2_with fail
   go_ret
   exact ⟨rfl, ((((((((hz1.trans hx1).trans hz2).trans hx2).trans ((Ext.refl _).drew)).trans hz3).trans hz4).trans hz5).trans hxt1)⟩
end
end Go.Proofs.YtikbeiafobnblaaGreat
