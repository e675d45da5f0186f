/- The walk of the exact law over replies. No condition. -/
import Derived.Test.YtpeipodehflmaaaW26
namespace Go.Proofs.Ytpeipodehflmaaa
open Go.ChangeShapes Go.WideShapes Go.ChangeAt Go.RowKit Go.Deep

theorem lmF_ByteS (l : List Int) (v : Value) (k : Int) (S : Nat → Prop) (w : World) (o : ((Own.flat byteF 1 byteFlen 5)).own S w v l) (h0 : 0 ≤ k) (h1 : k + 1 * l.length ≤ 4611686018427387904) :
    Calls Try.prog 79 #[v, .int .i64 k] w fun e w' => e = .returned (.int .i64 (k + 1 * l.length)) ∧ ((Own.flat byteF 1 byteFlen 5)).own S w' v (markL byteMk 1 (k) (l).length) ∧ Chg S w w' :=
  (l_markByteS l v k 0 w o.1 h0 h1).mono fun _ _ ⟨he, ho, hg⟩ => ⟨he, ⟨ho, o.2⟩, Chg.ofGrown hg o.2⟩

set_option maxRecDepth 100000 in
set_option maxHeartbeats 8000000 in
theorem l_FnExactReply (a0 : Pkt) (v0h0 : Value) (v0h1 : Value) (a1 : Int) (a2 : Int) (a3 : List Int) (v3h0 : Value) (w : World) (r0h0 : RdS Part.rep w v0h0 a0.path.parts) (r0h1 : RdS Rep.byte w v0h1 a0.pay) (_ : a0.ok) (_ : I64 a1) (_ : I64 a2) (r3h0 : RdS Rep.byte w v3h0 a3) (_ : ∀ x ∈ a3, U8 x) :
    Calls Try.prog 14 #[.agg #[.int .i64 a0.kind, .int .i64 a0.src, .int .i64 a0.dst, v0h0, .int .i64 a0.pi, .int .i64 a0.hi, .int .i64 a0.beta, .int .i64 a0.rid, .int .i64 a0.seq, v0h1], .int .i64 a1, .int .i64 a2, v3h0] w fun e w' => e = .returned (.bool true) ∧ Ext w w' := by
  go_enter Try.func14, Try.ntmps14
  have e0 : Ext w (w.alloc (.cells #[.int .i64 a0.kind, .int .i64 a0.src, .int .i64 a0.dst, v0h0, .int .i64 a0.pi, .int .i64 a0.hi, .int .i64 a0.beta, .int .i64 a0.rid, .int .i64 a0.seq, v0h1] 80)) := (Ext.refl _).alloc _
  have hB0 := blk_new w (.cells #[.int .i64 a0.kind, .int .i64 a0.src, .int .i64 a0.dst, v0h0, .int .i64 a0.pi, .int .i64 a0.hi, .int .i64 a0.beta, .int .i64 a0.rid, .int .i64 a0.seq, v0h1] 80)
  have HB0 := Lib.hid hB0; clear hB0
  obtain ⟨vp3, vc3, rfl, vl3⟩ := r3h0.shape; clear vl3
  by_cases z3 : 1048576 < a3.length
  · have zz : (1048576 : Int) < (a3.length : Int) := by omega
    go_wp2_with fail
    go_ret
    exact ⟨rfl, e0⟩
  have zz3 : ¬ (1048576 : Int) < (a3.length : Int) := by omega
  go_wp2_with fail
  refine (l_szPacket a0 v0h0 v0h1 (1048576) _ (r0h0.ext e0) (r0h1.ext e0) (by omega) (by omega)).mono ?_
  rintro e w2 ⟨rfl, h2⟩
  rcases Int.lt_or_le (1048576 - (a0.size : Int)) 0 with z0 | z0
  · rw [show szL (1048576) a0.size = -1 from if_pos z0]
    go_wp2_with fail
    go_ret
    exact ⟨rfl, (e0.trans h2)⟩
  rw [show szL (1048576) a0.size = 1048576 - (a0.size : Int) from if_neg (by omega)]
  have y0 : a0.size ≤ 1048576 := by omega
  have y3 : a3.length ≤ 1048576 := by omega
  have ym0 := Pkt.cnt_le y0
  obtain ⟨ym0a, ym0b⟩ := ym0
  have yr0 : 0 ≤ (reply a0 a1 a2 a3).cnt ∧ (reply a0 a1 a2 a3).cnt ≤ 5242880 * 2 := by
    have h1 : (reply a0 a1 a2 a3).size = a0.path.size + a3.length := by unfold reply; rw [newPkt_size, revPath_size]
    have h := y0; unfold Pkt.size at h h1; unfold Pth.size at h h1; unfold Pkt.cnt markN; omega
  obtain ⟨yr0a, yr0b⟩ := yr0
  have hc2 := blk10 (Ext.block h2 HB0.out)
  go_wp2_with fail
  refine (l_toPacket a0 v0h0 v0h1 _ (r0h0.ext (e0.trans h2)) (r0h1.ext (e0.trans h2)) y0).mono ?_
  rintro e w3 ⟨s0u0, s0u1, rfl, s0o0, h3⟩
  have hc3 := blk10 (Ext.block (h2.trans h3) HB0.out)
  go_wp2_with fail
  refine (l_toByteS a3 _ _ (r3h0.ext ((e0.trans h2).trans h3)) y3).mono ?_
  rintro e w4 ⟨s3u0, rfl, s3o0, h4⟩
  have s3o0q := Own.ofF (hf := byteFlen) s3o0
  have hc4 := blk10 (Ext.block ((h2.trans h3).trans h4) HB0.out)
  go_wp2_with fail
  refine (s_Reply a0 s0u0 s0u1 a1 a2 a3 s3u0 _ ((Pkt.own_rd0 s0o0).ext h4) ((Pkt.own_rd1 s0o0).ext h4) (((Own.flat byteF 1 byteFlen 5)).rd s3o0q) y0 y3).mono ?_
  rintro e w5 ⟨spu0, spu1, rfl, spo0, h5⟩
  obtain ⟨spp0, spc0, rfl, spl0⟩ := (Pkt.own_rd0 spo0).shape; clear spl0
  obtain ⟨spp1, spc1, rfl, spl1⟩ := (Pkt.own_rd1 spo0).shape; clear spl1
  have e5 : Ext w5 (w5.alloc (.cells #[.int .i64 (reply a0 a1 a2 a3).kind, .int .i64 (reply a0 a1 a2 a3).src, .int .i64 (reply a0 a1 a2 a3).dst, (.slice spp0 ((reply a0 a1 a2 a3).path.parts).length spc0), .int .i64 (reply a0 a1 a2 a3).pi, .int .i64 (reply a0 a1 a2 a3).hi, .int .i64 (reply a0 a1 a2 a3).beta, .int .i64 (reply a0 a1 a2 a3).rid, .int .i64 (reply a0 a1 a2 a3).seq, (.slice spp1 ((reply a0 a1 a2 a3).pay).length spc1)] 86)) := (Ext.refl _).alloc _
  have hB5 := blk_new w5 (.cells #[.int .i64 (reply a0 a1 a2 a3).kind, .int .i64 (reply a0 a1 a2 a3).src, .int .i64 (reply a0 a1 a2 a3).dst, (.slice spp0 ((reply a0 a1 a2 a3).path.parts).length spc0), .int .i64 (reply a0 a1 a2 a3).pi, .int .i64 (reply a0 a1 a2 a3).hi, .int .i64 (reply a0 a1 a2 a3).beta, .int .i64 (reply a0 a1 a2 a3).rid, .int .i64 (reply a0 a1 a2 a3).seq, (.slice spp1 ((reply a0 a1 a2 a3).pay).length spc1)] 86)
  have HB5 := Lib.hid hB5; clear hB5
  have hc5 := blk10 (Ext.block ((((h2.trans h3).trans h4).trans h5).trans e5) HB0.out)
  go_wp2_with fail
  refine (l_toPacket a0 v0h0 v0h1 _ (r0h0.ext (((((e0.trans h2).trans h3).trans h4).trans h5).trans e5)) (r0h1.ext (((((e0.trans h2).trans h3).trans h4).trans h5).trans e5)) y0).mono ?_
  rintro e w7 ⟨x0u0, x0u1, rfl, x0o0, h7⟩
  obtain ⟨x0sp0, x0sc0, rfl, x0sl0⟩ := (Pkt.own_rd0 x0o0).shape; clear x0sl0
  obtain ⟨x0sp1, x0sc1, rfl, x0sl1⟩ := (Pkt.own_rd1 x0o0).shape; clear x0sl1
  have e7 : Ext w7 (w7.alloc (.cells #[.int .i64 a0.kind, .int .i64 a0.src, .int .i64 a0.dst, (.slice x0sp0 (a0.path.parts).length x0sc0), .int .i64 a0.pi, .int .i64 a0.hi, .int .i64 a0.beta, .int .i64 a0.rid, .int .i64 a0.seq, (.slice x0sp1 (a0.pay).length x0sc1)] 86)) := (Ext.refl _).alloc _
  have hB7 := blk_new w7 (.cells #[.int .i64 a0.kind, .int .i64 a0.src, .int .i64 a0.dst, (.slice x0sp0 (a0.path.parts).length x0sc0), .int .i64 a0.pi, .int .i64 a0.hi, .int .i64 a0.beta, .int .i64 a0.rid, .int .i64 a0.seq, (.slice x0sp1 (a0.pay).length x0sc1)] 86)
  have HB7 := Lib.hid hB7; clear hB7
  have hc7 := blk10 (Ext.block ((((((h2.trans h3).trans h4).trans h5).trans e5).trans h7).trans e7) HB0.out)
  have hc8 := blk10 (Ext.block (h7.trans e7) HB5.out)
  go_wp2_with fail
  refine (l_toByteS a3 _ _ (r3h0.ext (((((((e0.trans h2).trans h3).trans h4).trans h5).trans e5).trans h7).trans e7)) y3).mono ?_
  rintro e w9 ⟨x3u0, rfl, x3o0, h9⟩
  have x3o0q := Own.ofF (hf := byteFlen) x3o0
  obtain ⟨x3sp0, x3sc0, rfl, x3sl0⟩ := (((Own.flat byteF 1 byteFlen 5)).rd x3o0q).shape; clear x3sl0
  have hc10 := blk10 (Ext.block (((((((h2.trans h3).trans h4).trans h5).trans e5).trans h7).trans e7).trans h9) HB0.out)
  have hc11 := blk10 (Ext.block ((h7.trans e7).trans h9) HB5.out)
  have hc12 := blk10 (Ext.block h9 HB7.out)
  go_wp2_with fail
  refine (i_Reply a0 (.slice x0sp0 (a0.path.parts).length x0sc0) (.slice x0sp1 (a0.pay).length x0sc1) a1 a2 a3 (.slice x3sp0 (a3).length x3sc0) _ ((Pkt.own_rd0 x0o0).ext (e7.trans h9)) ((Pkt.own_rd1 x0o0).ext (e7.trans h9)) (((Own.flat byteF 1 byteFlen 5)).rd x3o0q) y0 y3).mono ?_
  rintro e w10 ⟨gpu0, gpu1, rfl, gpo0, h10⟩
  obtain ⟨gpp0, gpc0, rfl, gpl0⟩ := (Pkt.own_rd0 gpo0).shape; clear gpl0
  obtain ⟨gpp1, gpc1, rfl, gpl1⟩ := (Pkt.own_rd1 gpo0).shape; clear gpl1
  have e10 : Ext w10 (w10.alloc (.cells #[.int .i64 (reply a0 a1 a2 a3).kind, .int .i64 (reply a0 a1 a2 a3).src, .int .i64 (reply a0 a1 a2 a3).dst, (.slice gpp0 ((reply a0 a1 a2 a3).path.parts).length gpc0), .int .i64 (reply a0 a1 a2 a3).pi, .int .i64 (reply a0 a1 a2 a3).hi, .int .i64 (reply a0 a1 a2 a3).beta, .int .i64 (reply a0 a1 a2 a3).rid, .int .i64 (reply a0 a1 a2 a3).seq, (.slice gpp1 ((reply a0 a1 a2 a3).pay).length gpc1)] 86)) := (Ext.refl _).alloc _
  have hB10 := blk_new w10 (.cells #[.int .i64 (reply a0 a1 a2 a3).kind, .int .i64 (reply a0 a1 a2 a3).src, .int .i64 (reply a0 a1 a2 a3).dst, (.slice gpp0 ((reply a0 a1 a2 a3).path.parts).length gpc0), .int .i64 (reply a0 a1 a2 a3).pi, .int .i64 (reply a0 a1 a2 a3).hi, .int .i64 (reply a0 a1 a2 a3).beta, .int .i64 (reply a0 a1 a2 a3).rid, .int .i64 (reply a0 a1 a2 a3).seq, (.slice gpp1 ((reply a0 a1 a2 a3).pay).length gpc1)] 86)
  have HB10 := Lib.hid hB10; clear hB10
  have hc13 := blk10 (Ext.block (((((((((h2.trans h3).trans h4).trans h5).trans e5).trans h7).trans e7).trans h9).trans h10).trans e10) HB0.out)
  have hc14 := blk10 (Ext.block ((((h7.trans e7).trans h9).trans h10).trans e10) HB5.out)
  have hc15 := blk10 (Ext.block ((h9.trans h10).trans e10) HB7.out)
  go_wp2_with fail
  refine (l_eqPacket (reply a0 a1 a2 a3) (reply a0 a1 a2 a3) (.slice gpp0 ((reply a0 a1 a2 a3).path.parts).length gpc0) (.slice gpp1 ((reply a0 a1 a2 a3).pay).length gpc1) (.slice spp0 ((reply a0 a1 a2 a3).path.parts).length spc0) (.slice spp1 ((reply a0 a1 a2 a3).pay).length spc1) _ ((Pkt.own_rd0 gpo0).ext e10) ((Pkt.own_rd1 gpo0).ext e10) ((Pkt.own_rd0 spo0).ext (((((e5.trans h7).trans e7).trans h9).trans h10).trans e10)) ((Pkt.own_rd1 spo0).ext (((((e5.trans h7).trans e7).trans h9).trans h10).trans e10))).mono ?_
  rintro e w12 ⟨rfl, h12⟩
  rw [show decide ((reply a0 a1 a2 a3) = (reply a0 a1 a2 a3)) = true from decide_eq_true rfl]
  have hc17 := blk10 (Ext.block ((((((((((h2.trans h3).trans h4).trans h5).trans e5).trans h7).trans e7).trans h9).trans h10).trans e10).trans h12) HB0.out)
  have hc18 := blk10 (Ext.block (((((h7.trans e7).trans h9).trans h10).trans e10).trans h12) HB5.out)
  have hc19 := blk10 (Ext.block (((h9.trans h10).trans e10).trans h12) HB7.out)
  have hc20 := blk10 (Ext.block h12 HB10.out)
  go_wp2_with fail
  refine planStep (.blk [0, 1] (.one 2 (.one 3 (.blk [4] .done)))) [] (by kernel_rfl) (by kernel_rfl) ?_
  refine blkStep (fun K HK => ?_)
  simp only [pick, List.filterMap_cons, List.filterMap_nil, List.getElem?_toArray, List.getElem?_cons_zero, List.getElem?_cons_succ]
  go_wp2_with fail
  refine HK.out _ _ ?_
  clear HK K
  refine oneStep (fun K HK => ?_)
  simp only [pick, List.filterMap_cons, List.filterMap_nil, List.getElem?_toArray, List.getElem?_cons_zero, List.getElem?_cons_succ]
  go_wp2_with fail
  refine (l_toPacket a0 v0h0 v0h1 _ (r0h0.ext (((((((((((e0.trans h2).trans h3).trans h4).trans h5).trans e5).trans h7).trans e7).trans h9).trans h10).trans e10).trans h12).drew) (r0h1.ext (((((((((((e0.trans h2).trans h3).trans h4).trans h5).trans e5).trans h7).trans e7).trans h9).trans h10).trans e10).trans h12).drew) y0).mono ?_
  rintro e w13 ⟨t0u0, t0u1, rfl, t0o0, h13⟩
  go_wp2_with fail
  refine HK.out _ _ (h13) ?_
  clear HK K
  refine oneStep (fun K HK => ?_)
  simp only [pick, List.filterMap_cons, List.filterMap_nil, List.getElem?_toArray, List.getElem?_cons_zero, List.getElem?_cons_succ]
  go_wp2_with fail
  refine (l_eqPacket a0 a0 (.slice x0sp0 (a0.path.parts).length x0sc0) (.slice x0sp1 (a0.pay).length x0sc1) t0u0 t0u1 _ ((Pkt.own_rd0 x0o0).ext (((((e7.trans h9).trans h10).trans e10).trans h12).trans ((Ext.refl _).drew.trans h13))) ((Pkt.own_rd1 x0o0).ext (((((e7.trans h9).trans h10).trans e10).trans h12).trans ((Ext.refl _).drew.trans h13))) (Pkt.own_rd0 t0o0) (Pkt.own_rd1 t0o0)).mono ?_
  rintro e w14 ⟨rfl, h14⟩
  rw [show decide (a0 = a0) = true from decide_eq_true rfl]
  go_wp2_with fail
  refine HK.out _ _ (h14) ?_
  clear HK K
  refine blkStep (fun K HK => ?_)
  simp only [pick, List.filterMap_cons, List.filterMap_nil, List.getElem?_toArray, List.getElem?_cons_zero, List.getElem?_cons_succ]
  go_wp2_with fail
  refine HK.out _ _ ?_
  clear HK K
  refine doneStep (by kernel_rfl) ?_
  have hc21 := blk10 (Ext.block ((((((((((((h2.trans h3).trans h4).trans h5).trans e5).trans h7).trans e7).trans h9).trans h10).trans e10).trans h12).trans ((Ext.refl _).drew.trans h13)).trans h14) HB0.out)
  have hc22 := blk10 (Ext.block (((((((h7.trans e7).trans h9).trans h10).trans e10).trans h12).trans ((Ext.refl _).drew.trans h13)).trans h14) HB5.out)
  have hc23 := blk10 (Ext.block (((((h9.trans h10).trans e10).trans h12).trans ((Ext.refl _).drew.trans h13)).trans h14) HB7.out)
  have hc24 := blk10 (Ext.block ((h12.trans ((Ext.refl _).drew.trans h13)).trans h14) HB10.out)
  go_wp2_with fail
  refine (l_toByteS a3 _ _ (r3h0.ext (((((((((((((e0.trans h2).trans h3).trans h4).trans h5).trans e5).trans h7).trans e7).trans h9).trans h10).trans e10).trans h12).trans ((Ext.refl _).drew.trans h13)).trans h14)) y3).mono ?_
  rintro e w15 ⟨t3u0, rfl, t3o0, h15⟩
  have t3o0q := Own.ofF (hf := byteFlen) t3o0
  have hc25 := blk10 (Ext.block (((((((((((((h2.trans h3).trans h4).trans h5).trans e5).trans h7).trans e7).trans h9).trans h10).trans e10).trans h12).trans ((Ext.refl _).drew.trans h13)).trans h14).trans h15) HB0.out)
  have hc26 := blk10 (Ext.block ((((((((h7.trans e7).trans h9).trans h10).trans e10).trans h12).trans ((Ext.refl _).drew.trans h13)).trans h14).trans h15) HB5.out)
  have hc27 := blk10 (Ext.block ((((((h9.trans h10).trans e10).trans h12).trans ((Ext.refl _).drew.trans h13)).trans h14).trans h15) HB7.out)
  have hc28 := blk10 (Ext.block (((h12.trans ((Ext.refl _).drew.trans h13)).trans h14).trans h15) HB10.out)
  go_wp2_with fail
  refine (l_eqByteS a3 a3 (.slice x3sp0 (a3).length x3sc0) t3u0 _ ((((Own.flat byteF 1 byteFlen 5)).rd x3o0q).ext (((((h10.trans e10).trans h12).trans ((Ext.refl _).drew.trans h13)).trans h14).trans h15)) (((Own.flat byteF 1 byteFlen 5)).rd t3o0q)).mono ?_
  rintro e w16 ⟨rfl, h16⟩
  rw [show decide (a3 = a3) = true from decide_eq_true rfl]
  have hc29 := blk10 (Ext.block ((((((((((((((h2.trans h3).trans h4).trans h5).trans e5).trans h7).trans e7).trans h9).trans h10).trans e10).trans h12).trans ((Ext.refl _).drew.trans h13)).trans h14).trans h15).trans h16) HB0.out)
  have hc30 := blk10 (Ext.block (((((((((h7.trans e7).trans h9).trans h10).trans e10).trans h12).trans ((Ext.refl _).drew.trans h13)).trans h14).trans h15).trans h16) HB5.out)
  have hc31 := blk10 (Ext.block (((((((h9.trans h10).trans e10).trans h12).trans ((Ext.refl _).drew.trans h13)).trans h14).trans h15).trans h16) HB7.out)
  have hc32 := blk10 (Ext.block ((((h12.trans ((Ext.refl _).drew.trans h13)).trans h14).trans h15).trans h16) HB10.out)
  go_wp2_with fail
  refine (l_markPacket (a0) (.slice x0sp0 (a0.path.parts).length x0sc0) (.slice x0sp1 (a0.pay).length x0sc1) (1) _ _ (Pkt.own_ext x0o0 ((((((((e7.trans h9).trans h10).trans e10).trans h12).trans ((Ext.refl _).drew.trans h13)).trans h14).trans h15).trans h16)) (by omega) (by omega)).mono ?_
  rintro e w17 ⟨rfl, mx0o, mx0c⟩
  have HB0m1 := Lib.hid (Chg.blk mx0c (Ext.block ((((((((((((((h2.trans h3).trans h4).trans h5).trans e5).trans h7).trans e7).trans h9).trans h10).trans e10).trans h12).trans ((Ext.refl _).drew.trans h13)).trans h14).trans h15).trans h16) HB0.out) (.inl (Nat.lt_of_lt_of_le (blk_lt HB0.out) ((((h2.trans h3).trans h4).trans h5).trans e5).size)))
  have HB5m1 := Lib.hid (Chg.blk mx0c (Ext.block (((((((((h7.trans e7).trans h9).trans h10).trans e10).trans h12).trans ((Ext.refl _).drew.trans h13)).trans h14).trans h15).trans h16) HB5.out) (.inl (Nat.lt_of_lt_of_le (blk_lt HB5.out) (Ext.refl _).size)))
  have HB7m1 := Lib.hid (Chg.blk mx0c (Ext.block (((((((h9.trans h10).trans e10).trans h12).trans ((Ext.refl _).drew.trans h13)).trans h14).trans h15).trans h16) HB7.out) (.inr (Ext.refl _).size))
  have HB10m1 := Lib.hid (Chg.blk mx0c (Ext.block ((((h12.trans ((Ext.refl _).drew.trans h13)).trans h14).trans h15).trans h16) HB10.out) (.inr ((e7.trans h9).trans h10).size))
  have s0o0_m1 := Pkt.own_kept (Pkt.own_ext s0o0 ((((((((((((h4.trans h5).trans e5).trans h7).trans e7).trans h9).trans h10).trans e10).trans h12).trans ((Ext.refl _).drew.trans h13)).trans h14).trans h15).trans h16)) mx0c (rng_apart (.inl ((h4.trans h5).trans e5).size))
  have s3o0q_m1 := Own.kept _ (Own.ext s3o0q (((((((((((h5.trans e5).trans h7).trans e7).trans h9).trans h10).trans e10).trans h12).trans ((Ext.refl _).drew.trans h13)).trans h14).trans h15).trans h16)) mx0c (rng_apart (.inl (h5.trans e5).size))
  have spo0_m1 := Pkt.own_kept (Pkt.own_ext spo0 ((((((((((e5.trans h7).trans e7).trans h9).trans h10).trans e10).trans h12).trans ((Ext.refl _).drew.trans h13)).trans h14).trans h15).trans h16)) mx0c (rng_apart (.inl e5.size))
  have x3o0q_m1 := Own.kept _ (Own.ext x3o0q ((((((h10.trans e10).trans h12).trans ((Ext.refl _).drew.trans h13)).trans h14).trans h15).trans h16)) mx0c (rng_apart (.inr e7.size))
  have gpo0_m1 := Pkt.own_kept (Pkt.own_ext gpo0 (((((e10.trans h12).trans ((Ext.refl _).drew.trans h13)).trans h14).trans h15).trans h16)) mx0c (rng_apart (.inr (e7.trans h9).size))
  have t0o0_m1 := Pkt.own_kept (Pkt.own_ext t0o0 ((h14.trans h15).trans h16)) mx0c (rng_apart (.inr ((((e7.trans h9).trans h10).trans e10).trans h12).size))
  have t3o0q_m1 := Own.kept _ (Own.ext t3o0q h16) mx0c (rng_apart (.inr ((((((e7.trans h9).trans h10).trans e10).trans h12).trans ((Ext.refl _).drew.trans h13)).trans h14).size))
  have X1 := Ext.chg (((((((((((((((e0.trans h2).trans h3).trans h4).trans h5).trans e5).trans h7).trans e7).trans h9).trans h10).trans e10).trans h12).trans ((Ext.refl _).drew.trans h13)).trans h14).trans h15).trans h16) mx0c (fun i hi => Nat.le_trans (((((e0.trans h2).trans h3).trans h4).trans h5).trans e5).size hi.1)
  have hc33 := blk10 HB0m1.out
  have hc34 := blk10 HB5m1.out
  have hc35 := blk10 HB7m1.out
  have hc36 := blk10 HB10m1.out
  go_wp2_with fail
  refine (lmF_ByteS (a3) (.slice x3sp0 (a3).length x3sc0) (1 + (a0).cnt) _ _ x3o0q_m1 (by omega) (by omega)).mono ?_
  rintro e w18 ⟨rfl, mx3o, mx3c⟩
  have HB0m2 := Lib.hid (Chg.blk mx3c HB0m1.out (.inl (Nat.lt_of_lt_of_le (blk_lt HB0.out) ((((((h2.trans h3).trans h4).trans h5).trans e5).trans h7).trans e7).size)))
  have HB5m2 := Lib.hid (Chg.blk mx3c HB5m1.out (.inl (Nat.lt_of_lt_of_le (blk_lt HB5.out) (h7.trans e7).size)))
  have HB7m2 := Lib.hid (Chg.blk mx3c HB7m1.out (.inl (Nat.lt_of_lt_of_le (blk_lt HB7.out) (Ext.refl _).size)))
  have HB10m2 := Lib.hid (Chg.blk mx3c HB10m1.out (.inr h10.size))
  have s0o0_m2 := Pkt.own_kept s0o0_m1 mx3c (rng_apart (.inl ((((h4.trans h5).trans e5).trans h7).trans e7).size))
  have s3o0q_m2 := Own.kept _ s3o0q_m1 mx3c (rng_apart (.inl (((h5.trans e5).trans h7).trans e7).size))
  have spo0_m2 := Pkt.own_kept spo0_m1 mx3c (rng_apart (.inl ((e5.trans h7).trans e7).size))
  have mx0o_m2 := Pkt.own_kept mx0o mx3c (rng_apart (.inl e7.size))
  have gpo0_m2 := Pkt.own_kept gpo0_m1 mx3c (rng_apart (.inr (Ext.refl _).size))
  have t0o0_m2 := Pkt.own_kept t0o0_m1 mx3c (rng_apart (.inr ((h10.trans e10).trans h12).size))
  have t3o0q_m2 := Own.kept _ t3o0q_m1 mx3c (rng_apart (.inr ((((h10.trans e10).trans h12).trans ((Ext.refl _).drew.trans h13)).trans h14).size))
  have X2 := Ext.chg (X1.trans (Ext.refl _)) mx3c (fun i hi => Nat.le_trans (((((((e0.trans h2).trans h3).trans h4).trans h5).trans e5).trans h7).trans e7).size hi.1)
  have hqp : ¬ (1 + (a0).cnt + 1 * ((a3).length : Int)) < 0 := by omega
  have hc37 := blk10 HB0m2.out
  have hc38 := blk10 HB5m2.out
  have hc39 := blk10 HB7m2.out
  have hc40 := blk10 HB10m2.out
  go_wp2_with fail
  refine (l_eqPacket (reply a0 a1 a2 a3) (reply a0 a1 a2 a3) (.slice gpp0 ((reply a0 a1 a2 a3).path.parts).length gpc0) (.slice gpp1 ((reply a0 a1 a2 a3).pay).length gpc1) (.slice spp0 ((reply a0 a1 a2 a3).path.parts).length spc0) (.slice spp1 ((reply a0 a1 a2 a3).pay).length spc1) _ (Pkt.own_rd0 gpo0_m2) (Pkt.own_rd1 gpo0_m2) (Pkt.own_rd0 spo0_m2) (Pkt.own_rd1 spo0_m2)).mono ?_
  rintro e w19 ⟨rfl, h19⟩
  rw [show decide ((reply a0 a1 a2 a3) = (reply a0 a1 a2 a3)) = true from decide_eq_true rfl]
  have hc41 := blk10 (Ext.block h19 HB0m2.out)
  have hc42 := blk10 (Ext.block h19 HB5m2.out)
  have hc43 := blk10 (Ext.block h19 HB7m2.out)
  have hc44 := blk10 (Ext.block h19 HB10m2.out)
  go_wp2_with fail
  refine (l_markPacket ((reply a0 a1 a2 a3)) (.slice gpp0 ((reply a0 a1 a2 a3).path.parts).length gpc0) (.slice gpp1 ((reply a0 a1 a2 a3).pay).length gpc1) (1) _ _ (Pkt.own_ext gpo0_m2 h19) (by omega) (by omega)).mono ?_
  rintro e w20 ⟨rfl, mgo, mgc⟩
  have HB0m3 := Lib.hid (Chg.blk mgc (Ext.block h19 HB0m2.out) (.inl (Nat.lt_of_lt_of_le (blk_lt HB0.out) (((((((h2.trans h3).trans h4).trans h5).trans e5).trans h7).trans e7).trans h9).size)))
  have HB5m3 := Lib.hid (Chg.blk mgc (Ext.block h19 HB5m2.out) (.inl (Nat.lt_of_lt_of_le (blk_lt HB5.out) ((h7.trans e7).trans h9).size)))
  have HB7m3 := Lib.hid (Chg.blk mgc (Ext.block h19 HB7m2.out) (.inl (Nat.lt_of_lt_of_le (blk_lt HB7.out) h9.size)))
  have HB10m3 := Lib.hid (Chg.blk mgc (Ext.block h19 HB10m2.out) (.inr (Ext.refl _).size))
  have s0o0_m3 := Pkt.own_kept (Pkt.own_ext s0o0_m2 h19) mgc (rng_apart (.inl (((((h4.trans h5).trans e5).trans h7).trans e7).trans h9).size))
  have s3o0q_m3 := Own.kept _ (Own.ext s3o0q_m2 h19) mgc (rng_apart (.inl ((((h5.trans e5).trans h7).trans e7).trans h9).size))
  have spo0_m3 := Pkt.own_kept (Pkt.own_ext spo0_m2 h19) mgc (rng_apart (.inl (((e5.trans h7).trans e7).trans h9).size))
  have mx0o_m3 := Pkt.own_kept (Pkt.own_ext mx0o_m2 h19) mgc (rng_apart (.inl (e7.trans h9).size))
  have mx3o_m3 := Own.kept _ (Own.ext mx3o h19) mgc (rng_apart (.inl (Ext.refl _).size))
  have t0o0_m3 := Pkt.own_kept (Pkt.own_ext t0o0_m2 h19) mgc (rng_apart (.inr (e10.trans h12).size))
  have t3o0q_m3 := Own.kept _ (Own.ext t3o0q_m2 h19) mgc (rng_apart (.inr (((e10.trans h12).trans ((Ext.refl _).drew.trans h13)).trans h14).size))
  have X3 := Ext.chg (X2.trans h19) mgc (fun i hi => Nat.le_trans ((((((((e0.trans h2).trans h3).trans h4).trans h5).trans e5).trans h7).trans e7).trans h9).size hi.1)
  have hc45 := blk10 HB0m3.out
  have hc46 := blk10 HB5m3.out
  have hc47 := blk10 HB7m3.out
  have hc48 := blk10 HB10m3.out
  go_wp2_with fail
  refine (l_heldPacket ((reply a0 a1 a2 a3)) (.slice gpp0 ((reply a0 a1 a2 a3).path.parts).length gpc0) (.slice gpp1 ((reply a0 a1 a2 a3).pay).length gpc1) (1) _ (Pkt.own_rd0 mgo) (Pkt.own_rd1 mgo) (by omega) (by omega)).mono ?_
  rintro e w21 ⟨rfl, h21⟩
  have hmp : ¬ (1 + ((reply a0 a1 a2 a3)).cnt) < 0 := by omega
  have hc49 := blk10 (Ext.block h21 HB0m3.out)
  have hc50 := blk10 (Ext.block h21 HB5m3.out)
  have hc51 := blk10 (Ext.block h21 HB7m3.out)
  have hc52 := blk10 (Ext.block h21 HB10m3.out)
  go_wp2_with fail
  refine (l_toPacket a0 v0h0 v0h1 _ (r0h0.ext (X3.trans h21)) (r0h1.ext (X3.trans h21)) y0).mono ?_
  rintro e w22 ⟨k0u0, k0u1, rfl, k0o0, h22⟩
  have hc53 := blk10 (Ext.block (h21.trans h22) HB0m3.out)
  have hc54 := blk10 (Ext.block (h21.trans h22) HB5m3.out)
  have hc55 := blk10 (Ext.block (h21.trans h22) HB7m3.out)
  have hc56 := blk10 (Ext.block (h21.trans h22) HB10m3.out)
  go_wp2_with fail
  refine (l_toByteS a3 _ _ (r3h0.ext (X3.trans (h21.trans h22))) y3).mono ?_
  rintro e w23 ⟨k3u0, rfl, k3o0, h23⟩
  have k3o0q := Own.ofF (hf := byteFlen) k3o0
  have hc57 := blk10 (Ext.block ((h21.trans h22).trans h23) HB0m3.out)
  have hc58 := blk10 (Ext.block ((h21.trans h22).trans h23) HB5m3.out)
  have hc59 := blk10 (Ext.block ((h21.trans h22).trans h23) HB7m3.out)
  have hc60 := blk10 (Ext.block ((h21.trans h22).trans h23) HB10m3.out)
  go_wp2_with fail
  refine (i_Reply a0 k0u0 k0u1 a1 a2 a3 k3u0 _ ((Pkt.own_rd0 k0o0).ext h23) ((Pkt.own_rd1 k0o0).ext h23) (((Own.flat byteF 1 byteFlen 5)).rd k3o0q) y0 y3).mono ?_
  rintro e w24 ⟨hpu0, hpu1, rfl, hpo0, h24⟩
  obtain ⟨hpp0, hpc0, rfl, hpl0⟩ := (Pkt.own_rd0 hpo0).shape; clear hpl0
  obtain ⟨hpp1, hpc1, rfl, hpl1⟩ := (Pkt.own_rd1 hpo0).shape; clear hpl1
  have e24 : Ext w24 (w24.alloc (.cells #[.int .i64 (reply a0 a1 a2 a3).kind, .int .i64 (reply a0 a1 a2 a3).src, .int .i64 (reply a0 a1 a2 a3).dst, (.slice hpp0 ((reply a0 a1 a2 a3).path.parts).length hpc0), .int .i64 (reply a0 a1 a2 a3).pi, .int .i64 (reply a0 a1 a2 a3).hi, .int .i64 (reply a0 a1 a2 a3).beta, .int .i64 (reply a0 a1 a2 a3).rid, .int .i64 (reply a0 a1 a2 a3).seq, (.slice hpp1 ((reply a0 a1 a2 a3).pay).length hpc1)] 86)) := (Ext.refl _).alloc _
  have hB24 := blk_new w24 (.cells #[.int .i64 (reply a0 a1 a2 a3).kind, .int .i64 (reply a0 a1 a2 a3).src, .int .i64 (reply a0 a1 a2 a3).dst, (.slice hpp0 ((reply a0 a1 a2 a3).path.parts).length hpc0), .int .i64 (reply a0 a1 a2 a3).pi, .int .i64 (reply a0 a1 a2 a3).hi, .int .i64 (reply a0 a1 a2 a3).beta, .int .i64 (reply a0 a1 a2 a3).rid, .int .i64 (reply a0 a1 a2 a3).seq, (.slice hpp1 ((reply a0 a1 a2 a3).pay).length hpc1)] 86)
  have HB24 := Lib.hid hB24; clear hB24
  have hc61 := blk10 (Ext.block ((((h21.trans h22).trans h23).trans h24).trans e24) HB0m3.out)
  have hc62 := blk10 (Ext.block ((((h21.trans h22).trans h23).trans h24).trans e24) HB5m3.out)
  have hc63 := blk10 (Ext.block ((((h21.trans h22).trans h23).trans h24).trans e24) HB7m3.out)
  have hc64 := blk10 (Ext.block ((((h21.trans h22).trans h23).trans h24).trans e24) HB10m3.out)
  go_wp2_with fail
  refine (l_eqPacket (reply a0 a1 a2 a3) (reply a0 a1 a2 a3) (.slice hpp0 ((reply a0 a1 a2 a3).path.parts).length hpc0) (.slice hpp1 ((reply a0 a1 a2 a3).pay).length hpc1) (.slice spp0 ((reply a0 a1 a2 a3).path.parts).length spc0) (.slice spp1 ((reply a0 a1 a2 a3).pay).length spc1) _ ((Pkt.own_rd0 hpo0).ext e24) ((Pkt.own_rd1 hpo0).ext e24) ((Pkt.own_rd0 spo0_m3).ext ((((h21.trans h22).trans h23).trans h24).trans e24)) ((Pkt.own_rd1 spo0_m3).ext ((((h21.trans h22).trans h23).trans h24).trans e24))).mono ?_
  rintro e w26 ⟨rfl, h26⟩
  rw [show decide ((reply a0 a1 a2 a3) = (reply a0 a1 a2 a3)) = true from decide_eq_true rfl]
  have hc66 := blk10 (Ext.block (((((h21.trans h22).trans h23).trans h24).trans e24).trans h26) HB0m3.out)
  have hc67 := blk10 (Ext.block (((((h21.trans h22).trans h23).trans h24).trans e24).trans h26) HB5m3.out)
  have hc68 := blk10 (Ext.block (((((h21.trans h22).trans h23).trans h24).trans e24).trans h26) HB7m3.out)
  have hc69 := blk10 (Ext.block (((((h21.trans h22).trans h23).trans h24).trans e24).trans h26) HB10m3.out)
  have hc70 := blk10 (Ext.block h26 HB24.out)
  go_wp2_with fail
  refine (l_heldPacket ((reply a0 a1 a2 a3)) (.slice gpp0 ((reply a0 a1 a2 a3).path.parts).length gpc0) (.slice gpp1 ((reply a0 a1 a2 a3).pay).length gpc1) (1) _ ((Pkt.own_rd0 mgo).ext (((((h21.trans h22).trans h23).trans h24).trans e24).trans h26)) ((Pkt.own_rd1 mgo).ext (((((h21.trans h22).trans h23).trans h24).trans e24).trans h26)) (by omega) (by omega)).mono ?_
  rintro e w27 ⟨rfl, h27⟩
  go_wp2_with fail
  go_ret
  exact ⟨rfl, (X3.trans ((((((h21.trans h22).trans h23).trans h24).trans e24).trans h26).trans h27))⟩

end Go.Proofs.Ytpeipodehflmaaa
