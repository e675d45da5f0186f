/- The walk of the exact law over the check of the current hop. No condition. -/
import Derived.Test.YtjjoijidlgkimaaW28c
import Derived.Test.YtjjoijidlgkimaaTyTopoM
namespace Go.Proofs.Ytjjoijidlgkimaa
open Go.ChangeShapes Go.WideShapes Go.ChangeAt Go.RowKit Go.Deep

set_option maxRecDepth 100000 in
set_option maxHeartbeats 8000000 in
theorem l_FnExactVerifyCurrentHop (a0 : Topo) (v0h0 : Value) (v0h1 : Value) (a1 : Pkt) (v1h0 : Value) (v1h1 : Value) (w : World) (r0h0 : RdS ASd.rep w v0h0 a0.ases) (r0h1 : RdS Lnk.rep w v0h1 a0.links) (_ : a0.ok) (r1h0 : RdS Part.rep w v1h0 a1.path.parts) (r1h1 : RdS Rep.byte w v1h1 a1.pay) (_ : a1.ok) :
    Calls Try.prog 8 #[.agg #[v0h0, v0h1], .agg #[.int .i64 a1.kind, .int .i64 a1.src, .int .i64 a1.dst, v1h0, .int .i64 a1.pi, .int .i64 a1.hi, .int .i64 a1.beta, .int .i64 a1.rid, .int .i64 a1.seq, v1h1]] w fun e w' => e = .returned (.bool true) ∧ Ext w w' := by
  go_enter Try.func8, Try.ntmps8
  have e0 : Ext w (w.alloc (.cells #[v0h0, v0h1] 56)) := (Ext.refl _).alloc _
  have hB0 := blk_new w (.cells #[v0h0, v0h1] 56)
  have HB0 := Lib.hid hB0; clear hB0
  have e1 : Ext (w.alloc (.cells #[v0h0, v0h1] 56)) ((w.alloc (.cells #[v0h0, v0h1] 56)).alloc (.cells #[.int .i64 a1.kind, .int .i64 a1.src, .int .i64 a1.dst, v1h0, .int .i64 a1.pi, .int .i64 a1.hi, .int .i64 a1.beta, .int .i64 a1.rid, .int .i64 a1.seq, v1h1] 62)) := (Ext.refl _).alloc _
  have hB1 := blk_new (w.alloc (.cells #[v0h0, v0h1] 56)) (.cells #[.int .i64 a1.kind, .int .i64 a1.src, .int .i64 a1.dst, v1h0, .int .i64 a1.pi, .int .i64 a1.hi, .int .i64 a1.beta, .int .i64 a1.rid, .int .i64 a1.seq, v1h1] 62)
  simp only [nblk_alloc] at hB1
  have HB1 := Lib.hid hB1; clear hB1
  have hc1 := blk2 (Ext.block e1 HB0.out)
  go_wp2_with fail
  refine (l_szTopology a0 v0h0 v0h1 (1048576) _ (r0h0.ext (e0.trans e1)) (r0h1.ext (e0.trans e1)) (by omega) (by omega)).mono ?_
  rintro e w3 ⟨rfl, h3⟩
  rcases Int.lt_or_le (1048576 - (a0.size : Int)) 0 with z0 | z0
  · rw [show szL (1048576) a0.size = -1 from if_pos z0]
    go_wp2_with fail
    go_ret
    exact ⟨rfl, ((e0.trans e1).trans h3)⟩
  rw [show szL (1048576) a0.size = 1048576 - (a0.size : Int) from if_neg (by omega)]
  have hc3 := blk2 (Ext.block (e1.trans h3) HB0.out)
  have hc4 := blk10 (Ext.block h3 HB1.out)
  go_wp2_with fail
  refine (l_szPacket a1 v1h0 v1h1 (1048576 - (a0.size : Int)) _ (r1h0.ext ((e0.trans e1).trans h3)) (r1h1.ext ((e0.trans e1).trans h3)) (by omega) (by omega)).mono ?_
  rintro e w4 ⟨rfl, h4⟩
  rcases Int.lt_or_le (1048576 - (a0.size : Int) - (a1.size : Int)) 0 with z1 | z1
  · rw [show szL (1048576 - (a0.size : Int)) a1.size = -1 from if_pos z1]
    go_wp2_with fail
    go_ret
    exact ⟨rfl, (((e0.trans e1).trans h3).trans h4)⟩
  rw [show szL (1048576 - (a0.size : Int)) a1.size = 1048576 - (a0.size : Int) - (a1.size : Int) from if_neg (by omega)]
  have y0 : a0.size ≤ 1048576 := by omega
  have y1 : a1.size ≤ 1048576 := by omega
  have ym0 := Topo.cnt_le y0
  obtain ⟨ym0a, ym0b⟩ := ym0
  have ym1 := Pkt.cnt_le y1
  obtain ⟨ym1a, ym1b⟩ := ym1
  have yr0 : 0 ≤ (verCur a0 a1).cnt ∧ (verCur a0 a1).cnt ≤ 5242880 := by
    have h1 : (verCur a0 a1).cnt = a1.cnt := by unfold verCur; split <;> rfl
    rw [h1]; exact ⟨ym1a, ym1b⟩
  obtain ⟨yr0a, yr0b⟩ := yr0
  have hc5 := blk2 (Ext.block ((e1.trans h3).trans h4) HB0.out)
  have hc6 := blk10 (Ext.block (h3.trans h4) HB1.out)
  go_upto_region 8 with (fail)
  go_cut [6, 7] (fun vb vv wx => ∃ g spu0 spu1, vb = .pointer (some ⟨g, 0, none⟩) ∧ vv = .bool (curOk a0 a1) ∧ wx.heap[g]? = some (.cells #[.int .i64 (verCur a0 a1).kind, .int .i64 (verCur a0 a1).src, .int .i64 (verCur a0 a1).dst, spu0, .int .i64 (verCur a0 a1).pi, .int .i64 (verCur a0 a1).hi, .int .i64 (verCur a0 a1).beta, .int .i64 (verCur a0 a1).rid, .int .i64 (verCur a0 a1).seq, spu1] 78) ∧ w4.heap.size ≤ g ∧ Pkt.own (rng w4.heap.size wx.heap.size) wx spu0 spu1 (verCur a0 a1) ∧ Ext w4 wx)
  case first =>
    refine planStep (.blk [0, 2] (.two 1 8 (.two 3 8 (.two 4 8 (.blk [5, 6, 7] (.one 8 (.one 9 (.blk [10] .done)))) (.one 4 (.blk [5, 6, 7] (.one 9 (.blk [10] .done))))) (.one 3 (.one 4 (.blk [5, 6, 7] (.one 9 (.blk [10] .done)))))) (.one 1 (.one 3 (.one 4 (.blk [5, 6, 7] (.one 9 (.blk [10] .done)))))))) [9] (by kernel_rfl) (by kernel_rfl) ?_
    refine blkStep (fun K HK => ?_)
    simp only [pick, List.filterMap_cons, List.filterMap_nil, List.getElem?_toArray, List.getElem?_cons_zero, List.getElem?_cons_succ]
    go_wp2_with fail
    refine HK.out _ _ ?_
    clear HK K
    refine twoStep ?_ ?_
    · refine oneStep (fun K HK => ?_)
      simp only [pick, List.filterMap_cons, List.filterMap_nil, List.getElem?_toArray, List.getElem?_cons_zero, List.getElem?_cons_succ]
      go_wp2_with fail
      refine (l_toTopologyO a0 v0h0 v0h1 _ (r0h0.ext ((((e0.trans e1).trans h3).trans h4).trans (Ext.refl _).drew)) (r0h1.ext ((((e0.trans e1).trans h3).trans h4).trans (Ext.refl _).drew)) y0).mono ?_
      rintro e spw0 ⟨sp0v0, sp0v1, rfl, sp0o, sph0⟩
      have hc7 := blk2 (Ext.block (((e1.trans h3).trans h4).trans ((Ext.refl _).drew.trans sph0)) HB0.out)
      have hc8 := blk10 (Ext.block ((h3.trans h4).trans ((Ext.refl _).drew.trans sph0)) HB1.out)
      go_wp2_with fail
      refine HK.out _ _ sph0 ?_
      clear HK K
      refine twoStep ?_ ?_
      · refine oneStep (fun K HK => ?_)
        simp only [pick, List.filterMap_cons, List.filterMap_nil, List.getElem?_toArray, List.getElem?_cons_zero, List.getElem?_cons_succ]
        go_wp2_with fail
        refine (l_toPacket a1 v1h0 v1h1 _ (r1h0.ext ((((e0.trans e1).trans h3).trans h4).trans ((Ext.refl _).drew.trans sph0))) (r1h1.ext ((((e0.trans e1).trans h3).trans h4).trans ((Ext.refl _).drew.trans sph0))) y1).mono ?_
        rintro e spw1 ⟨sp1v0, sp1v1, rfl, sp1o, sph1⟩
        have hc9 := blk2 (Ext.block (((e1.trans h3).trans h4).trans (((Ext.refl _).drew.trans sph0).trans sph1)) HB0.out)
        have hc10 := blk10 (Ext.block ((h3.trans h4).trans (((Ext.refl _).drew.trans sph0).trans sph1)) HB1.out)
        go_wp2_with fail
        refine HK.out _ _ sph1 ?_
        clear HK K
        refine twoStep ?_ ?_
        · refine oneStep (fun K HK => ?_)
          simp only [pick, List.filterMap_cons, List.filterMap_nil, List.getElem?_toArray, List.getElem?_cons_zero, List.getElem?_cons_succ]
          go_wp2_with fail
          refine (s_VerifyCurrentHop a0 sp0v0 sp0v1 a1 sp1v0 sp1v1 _ (Topo.own_rd0 (Topo.own_ext sp0o sph1)) (Topo.own_rd1 (Topo.own_ext sp0o sph1)) (Pkt.own_rd0 (Pkt.own_ext sp1o (Ext.refl _))) (Pkt.own_rd1 (Pkt.own_ext sp1o (Ext.refl _))) y1).mono ?_
          rintro e spw2 ⟨spu0, spu1, rfl, spoo, sph2⟩
          obtain ⟨spp0, spc0, rfl, spl0⟩ := (Pkt.own_rd0 spoo).shape; clear spl0
          obtain ⟨spp1, spc1, rfl, spl1⟩ := (Pkt.own_rd1 spoo).shape; clear spl1
          have hc11 := blk2 (Ext.block (((e1.trans h3).trans h4).trans ((((Ext.refl _).drew.trans sph0).trans sph1).trans sph2)) HB0.out)
          have hc12 := blk10 (Ext.block ((h3.trans h4).trans ((((Ext.refl _).drew.trans sph0).trans sph1).trans sph2)) HB1.out)
          go_wp2_with fail
          refine HK.out _ _ sph2 ?_
          clear HK K
          refine blkStep (fun K HK => ?_)
          simp only [pick, List.filterMap_cons, List.filterMap_nil, List.getElem?_toArray, List.getElem?_cons_zero, List.getElem?_cons_succ]
          go_wp2_with fail
          refine HK.out _ _ ?_
          clear HK K
          refine oneStep (fun K HK => ?_)
          simp only [pick, List.filterMap_cons, List.filterMap_nil, List.getElem?_toArray, List.getElem?_cons_zero, List.getElem?_cons_succ]
          go_wp2_with fail
          refine HK.out _ _ ((Ext.refl _).alloc _) ?_
          clear HK K
          refine badStep (by kernel_rfl) (fun K HK => ?_)
          simp only [pick, List.filterMap_cons, List.filterMap_nil, List.getElem?_toArray, List.getElem?_cons_zero, List.getElem?_cons_succ]
          go_wp2_with fail
          refine HK.out _ _ ?_
          clear HK K
          refine blkStep (fun K HK => ?_)
          simp only [pick, List.filterMap_cons, List.filterMap_nil, List.getElem?_toArray, List.getElem?_cons_zero, List.getElem?_cons_succ]
          go_wp2_with fail
          refine HK.out _ _ ?_
          clear HK K
          refine doneStep (by kernel_rfl) ?_
          go_wp2_with fail
          go_meet
          exact ⟨_, _, _, rfl, rfl, blk_new _ _, ((((Ext.refl _).drew.trans sph0).trans sph1).trans sph2).size, Pkt.own_mono (Pkt.own_ext spoo ((Ext.refl _).alloc _)) (fun b hb => ⟨by have h1 := hb.1; exact Nat.le_trans (((Ext.refl _).drew.trans sph0).trans sph1).size h1, Nat.lt_of_lt_of_le hb.2 ((Ext.refl _).alloc _).size⟩), ((((Ext.refl _).drew.trans sph0).trans sph1).trans sph2).alloc _⟩
        · have sphba := blk_new spw1 (.cells #[.int .i64 0, .int .i64 0, .int .i64 0, .slice none 0 0, .int .i64 0, .int .i64 0, .int .i64 0, .int .i64 0, .int .i64 0, .slice none 0 0] 78)
          have spHBA := Lib.hid sphba; clear sphba
          refine oneStep (fun K HK => ?_)
          simp only [pick, List.filterMap_cons, List.filterMap_nil, List.getElem?_toArray, List.getElem?_cons_zero, List.getElem?_cons_succ]
          go_wp2_with fail
          refine HK.out _ _ ((Ext.refl _).alloc _) ?_
          clear HK K
          refine oneStep (fun K HK => ?_)
          simp only [pick, List.filterMap_cons, List.filterMap_nil, List.getElem?_toArray, List.getElem?_cons_zero, List.getElem?_cons_succ]
          go_wp2_with fail
          refine (s_VerifyCurrentHop a0 sp0v0 sp0v1 a1 sp1v0 sp1v1 _ (Topo.own_rd0 (Topo.own_ext sp0o (sph1.trans ((Ext.refl _).alloc _)))) (Topo.own_rd1 (Topo.own_ext sp0o (sph1.trans ((Ext.refl _).alloc _)))) (Pkt.own_rd0 (Pkt.own_ext sp1o ((Ext.refl _).alloc _))) (Pkt.own_rd1 (Pkt.own_ext sp1o ((Ext.refl _).alloc _))) y1).mono ?_
          rintro e spw2 ⟨spu0, spu1, rfl, spoo, sph2⟩
          obtain ⟨spp0, spc0, rfl, spl0⟩ := (Pkt.own_rd0 spoo).shape; clear spl0
          obtain ⟨spp1, spc1, rfl, spl1⟩ := (Pkt.own_rd1 spoo).shape; clear spl1
          have hc13 := blk2 (Ext.block (((e1.trans h3).trans h4).trans (((((Ext.refl _).drew.trans sph0).trans sph1).trans ((Ext.refl _).alloc _)).trans sph2)) HB0.out)
          have hc14 := blk10 (Ext.block ((h3.trans h4).trans (((((Ext.refl _).drew.trans sph0).trans sph1).trans ((Ext.refl _).alloc _)).trans sph2)) HB1.out)
          go_wp2_with fail
          refine HK.out _ _ sph2 ?_
          clear HK K
          refine blkStep (fun K HK => ?_)
          simp only [pick, List.filterMap_cons, List.filterMap_nil, List.getElem?_toArray, List.getElem?_cons_zero, List.getElem?_cons_succ]
          go_wp2_with fail
          refine HK.out _ _ ?_
          clear HK K
          have sphbs := Ext.block sph2 spHBA.out
          have spcs := blk10 sphbs
          have spf0 := fr_of sphbs 0
          have spf1 := fr_of sphbs 1
          have spf2 := fr_of sphbs 2
          have spf3 := fr_of sphbs 3
          have spf4 := fr_of sphbs 4
          have spf5 := fr_of sphbs 5
          have spf6 := fr_of sphbs 6
          have spf7 := fr_of sphbs 7
          have spf8 := fr_of sphbs 8
          have spf9 := fr_of sphbs 9
          have spHBS := Lib.hid sphbs; clear sphbs
          refine badStep (by kernel_rfl) (fun K HK => ?_)
          simp only [pick, List.filterMap_cons, List.filterMap_nil, List.getElem?_toArray, List.getElem?_cons_zero, List.getElem?_cons_succ]
          go_wp2_with fail
          refine HK.out _ _ ?_
          clear HK K
          refine blkStep (fun K HK => ?_)
          simp only [pick, List.filterMap_cons, List.filterMap_nil, List.getElem?_toArray, List.getElem?_cons_zero, List.getElem?_cons_succ]
          go_wp2_with fail
          refine HK.out _ _ ?_
          clear HK K
          refine doneStep (by kernel_rfl) ?_
          go_wp2_with fail
          go_meet
          obtain ⟨wq, hwq, hbq, hcq, hsq⟩ := pk_set spHBS.out (.int .i64 (verCur a0 a1).kind) (.int .i64 (verCur a0 a1).src) (.int .i64 (verCur a0 a1).dst) ((.slice spp0 ((verCur a0 a1).path.parts).length spc0)) (.int .i64 (verCur a0 a1).pi) (.int .i64 (verCur a0 a1).hi) (.int .i64 (verCur a0 a1).beta) (.int .i64 (verCur a0 a1).rid) (.int .i64 (verCur a0 a1).seq) ((.slice spp1 ((verCur a0 a1).pay).length spc1))
          rw [← hwq]
          exact ⟨_, _, _, rfl, rfl, hbq, (((Ext.refl _).drew.trans sph0).trans sph1).size, Pkt.own_mono (Pkt.own_kept (Pkt.own_ext spoo (Ext.refl _)) hcq (fun b hb e => absurd hb.1 (by rw [e]; exact Nat.not_le.2 (Nat.lt_of_lt_of_le (blk_lt spHBA.out) (Ext.refl _).size)))) (fun b hb => ⟨Nat.le_trans ((((Ext.refl _).drew.trans sph0).trans sph1).trans ((Ext.refl _).alloc _)).size hb.1, by rw [hsq]; exact Nat.lt_of_lt_of_le hb.2 (Ext.refl _).size⟩), (((((Ext.refl _).drew.trans sph0).trans sph1).trans ((Ext.refl _).alloc _)).trans sph2).chg1 hcq (((Ext.refl _).drew.trans sph0).trans sph1).size⟩
      · have sphba := blk_new spw0 (.cells #[.int .i64 0, .int .i64 0, .int .i64 0, .slice none 0 0, .int .i64 0, .int .i64 0, .int .i64 0, .int .i64 0, .int .i64 0, .slice none 0 0] 78)
        have spHBA := Lib.hid sphba; clear sphba
        refine oneStep (fun K HK => ?_)
        simp only [pick, List.filterMap_cons, List.filterMap_nil, List.getElem?_toArray, List.getElem?_cons_zero, List.getElem?_cons_succ]
        go_wp2_with fail
        refine HK.out _ _ ((Ext.refl _).alloc _) ?_
        clear HK K
        refine oneStep (fun K HK => ?_)
        simp only [pick, List.filterMap_cons, List.filterMap_nil, List.getElem?_toArray, List.getElem?_cons_zero, List.getElem?_cons_succ]
        go_wp2_with fail
        refine (l_toPacket a1 v1h0 v1h1 _ (r1h0.ext ((((e0.trans e1).trans h3).trans h4).trans (((Ext.refl _).drew.trans sph0).trans ((Ext.refl _).alloc _)))) (r1h1.ext ((((e0.trans e1).trans h3).trans h4).trans (((Ext.refl _).drew.trans sph0).trans ((Ext.refl _).alloc _)))) y1).mono ?_
        rintro e spw1 ⟨sp1v0, sp1v1, rfl, sp1o, sph1⟩
        have hc15 := blk2 (Ext.block (((e1.trans h3).trans h4).trans ((((Ext.refl _).drew.trans sph0).trans ((Ext.refl _).alloc _)).trans sph1)) HB0.out)
        have hc16 := blk10 (Ext.block ((h3.trans h4).trans ((((Ext.refl _).drew.trans sph0).trans ((Ext.refl _).alloc _)).trans sph1)) HB1.out)
        go_wp2_with fail
        refine HK.out _ _ sph1 ?_
        clear HK K
        refine oneStep (fun K HK => ?_)
        simp only [pick, List.filterMap_cons, List.filterMap_nil, List.getElem?_toArray, List.getElem?_cons_zero, List.getElem?_cons_succ]
        go_wp2_with fail
        refine (s_VerifyCurrentHop a0 sp0v0 sp0v1 a1 sp1v0 sp1v1 _ (Topo.own_rd0 (Topo.own_ext sp0o (((Ext.refl _).alloc _).trans sph1))) (Topo.own_rd1 (Topo.own_ext sp0o (((Ext.refl _).alloc _).trans sph1))) (Pkt.own_rd0 (Pkt.own_ext sp1o (Ext.refl _))) (Pkt.own_rd1 (Pkt.own_ext sp1o (Ext.refl _))) y1).mono ?_
        rintro e spw2 ⟨spu0, spu1, rfl, spoo, sph2⟩
        obtain ⟨spp0, spc0, rfl, spl0⟩ := (Pkt.own_rd0 spoo).shape; clear spl0
        obtain ⟨spp1, spc1, rfl, spl1⟩ := (Pkt.own_rd1 spoo).shape; clear spl1
        have hc17 := blk2 (Ext.block (((e1.trans h3).trans h4).trans (((((Ext.refl _).drew.trans sph0).trans ((Ext.refl _).alloc _)).trans sph1).trans sph2)) HB0.out)
        have hc18 := blk10 (Ext.block ((h3.trans h4).trans (((((Ext.refl _).drew.trans sph0).trans ((Ext.refl _).alloc _)).trans sph1).trans sph2)) HB1.out)
        go_wp2_with fail
        refine HK.out _ _ sph2 ?_
        clear HK K
        refine blkStep (fun K HK => ?_)
        simp only [pick, List.filterMap_cons, List.filterMap_nil, List.getElem?_toArray, List.getElem?_cons_zero, List.getElem?_cons_succ]
        go_wp2_with fail
        refine HK.out _ _ ?_
        clear HK K
        have sphbs := Ext.block (sph1.trans sph2) spHBA.out
        have spcs := blk10 sphbs
        have spf0 := fr_of sphbs 0
        have spf1 := fr_of sphbs 1
        have spf2 := fr_of sphbs 2
        have spf3 := fr_of sphbs 3
        have spf4 := fr_of sphbs 4
        have spf5 := fr_of sphbs 5
        have spf6 := fr_of sphbs 6
        have spf7 := fr_of sphbs 7
        have spf8 := fr_of sphbs 8
        have spf9 := fr_of sphbs 9
        have spHBS := Lib.hid sphbs; clear sphbs
        refine badStep (by kernel_rfl) (fun K HK => ?_)
        simp only [pick, List.filterMap_cons, List.filterMap_nil, List.getElem?_toArray, List.getElem?_cons_zero, List.getElem?_cons_succ]
        go_wp2_with fail
        refine HK.out _ _ ?_
        clear HK K
        refine blkStep (fun K HK => ?_)
        simp only [pick, List.filterMap_cons, List.filterMap_nil, List.getElem?_toArray, List.getElem?_cons_zero, List.getElem?_cons_succ]
        go_wp2_with fail
        refine HK.out _ _ ?_
        clear HK K
        refine doneStep (by kernel_rfl) ?_
        go_wp2_with fail
        go_meet
        obtain ⟨wq, hwq, hbq, hcq, hsq⟩ := pk_set spHBS.out (.int .i64 (verCur a0 a1).kind) (.int .i64 (verCur a0 a1).src) (.int .i64 (verCur a0 a1).dst) ((.slice spp0 ((verCur a0 a1).path.parts).length spc0)) (.int .i64 (verCur a0 a1).pi) (.int .i64 (verCur a0 a1).hi) (.int .i64 (verCur a0 a1).beta) (.int .i64 (verCur a0 a1).rid) (.int .i64 (verCur a0 a1).seq) ((.slice spp1 ((verCur a0 a1).pay).length spc1))
        rw [← hwq]
        exact ⟨_, _, _, rfl, rfl, hbq, ((Ext.refl _).drew.trans sph0).size, Pkt.own_mono (Pkt.own_kept (Pkt.own_ext spoo (Ext.refl _)) hcq (fun b hb e => absurd hb.1 (by rw [e]; exact Nat.not_le.2 (Nat.lt_of_lt_of_le (blk_lt spHBA.out) sph1.size)))) (fun b hb => ⟨Nat.le_trans ((((Ext.refl _).drew.trans sph0).trans ((Ext.refl _).alloc _)).trans sph1).size hb.1, by rw [hsq]; exact Nat.lt_of_lt_of_le hb.2 (Ext.refl _).size⟩), (((((Ext.refl _).drew.trans sph0).trans ((Ext.refl _).alloc _)).trans sph1).trans sph2).chg1 hcq ((Ext.refl _).drew.trans sph0).size⟩
    · have sphba := blk_new w4 (.cells #[.int .i64 0, .int .i64 0, .int .i64 0, .slice none 0 0, .int .i64 0, .int .i64 0, .int .i64 0, .int .i64 0, .int .i64 0, .slice none 0 0] 78)
      have spHBA := Lib.hid sphba; clear sphba
      refine oneStep (fun K HK => ?_)
      simp only [pick, List.filterMap_cons, List.filterMap_nil, List.getElem?_toArray, List.getElem?_cons_zero, List.getElem?_cons_succ]
      go_wp2_with fail
      refine HK.out _ _ ((Ext.refl _).alloc _) ?_
      clear HK K
      refine oneStep (fun K HK => ?_)
      simp only [pick, List.filterMap_cons, List.filterMap_nil, List.getElem?_toArray, List.getElem?_cons_zero, List.getElem?_cons_succ]
      go_wp2_with fail
      refine (l_toTopologyO a0 v0h0 v0h1 _ (r0h0.ext ((((e0.trans e1).trans h3).trans h4).trans ((Ext.refl _).drew.trans ((Ext.refl _).alloc _)))) (r0h1.ext ((((e0.trans e1).trans h3).trans h4).trans ((Ext.refl _).drew.trans ((Ext.refl _).alloc _)))) y0).mono ?_
      rintro e spw0 ⟨sp0v0, sp0v1, rfl, sp0o, sph0⟩
      have hc19 := blk2 (Ext.block (((e1.trans h3).trans h4).trans (((Ext.refl _).drew.trans ((Ext.refl _).alloc _)).trans sph0)) HB0.out)
      have hc20 := blk10 (Ext.block ((h3.trans h4).trans (((Ext.refl _).drew.trans ((Ext.refl _).alloc _)).trans sph0)) HB1.out)
      go_wp2_with fail
      refine HK.out _ _ sph0 ?_
      clear HK K
      refine oneStep (fun K HK => ?_)
      simp only [pick, List.filterMap_cons, List.filterMap_nil, List.getElem?_toArray, List.getElem?_cons_zero, List.getElem?_cons_succ]
      go_wp2_with fail
      refine (l_toPacket a1 v1h0 v1h1 _ (r1h0.ext ((((e0.trans e1).trans h3).trans h4).trans (((Ext.refl _).drew.trans ((Ext.refl _).alloc _)).trans sph0))) (r1h1.ext ((((e0.trans e1).trans h3).trans h4).trans (((Ext.refl _).drew.trans ((Ext.refl _).alloc _)).trans sph0))) y1).mono ?_
      rintro e spw1 ⟨sp1v0, sp1v1, rfl, sp1o, sph1⟩
      have hc21 := blk2 (Ext.block (((e1.trans h3).trans h4).trans ((((Ext.refl _).drew.trans ((Ext.refl _).alloc _)).trans sph0).trans sph1)) HB0.out)
      have hc22 := blk10 (Ext.block ((h3.trans h4).trans ((((Ext.refl _).drew.trans ((Ext.refl _).alloc _)).trans sph0).trans sph1)) HB1.out)
      go_wp2_with fail
      refine HK.out _ _ sph1 ?_
      clear HK K
      refine oneStep (fun K HK => ?_)
      simp only [pick, List.filterMap_cons, List.filterMap_nil, List.getElem?_toArray, List.getElem?_cons_zero, List.getElem?_cons_succ]
      go_wp2_with fail
      refine (s_VerifyCurrentHop a0 sp0v0 sp0v1 a1 sp1v0 sp1v1 _ (Topo.own_rd0 (Topo.own_ext sp0o sph1)) (Topo.own_rd1 (Topo.own_ext sp0o sph1)) (Pkt.own_rd0 (Pkt.own_ext sp1o (Ext.refl _))) (Pkt.own_rd1 (Pkt.own_ext sp1o (Ext.refl _))) y1).mono ?_
      rintro e spw2 ⟨spu0, spu1, rfl, spoo, sph2⟩
      obtain ⟨spp0, spc0, rfl, spl0⟩ := (Pkt.own_rd0 spoo).shape; clear spl0
      obtain ⟨spp1, spc1, rfl, spl1⟩ := (Pkt.own_rd1 spoo).shape; clear spl1
      have hc23 := blk2 (Ext.block (((e1.trans h3).trans h4).trans (((((Ext.refl _).drew.trans ((Ext.refl _).alloc _)).trans sph0).trans sph1).trans sph2)) HB0.out)
      have hc24 := blk10 (Ext.block ((h3.trans h4).trans (((((Ext.refl _).drew.trans ((Ext.refl _).alloc _)).trans sph0).trans sph1).trans sph2)) HB1.out)
      go_wp2_with fail
      refine HK.out _ _ sph2 ?_
      clear HK K
      refine blkStep (fun K HK => ?_)
      simp only [pick, List.filterMap_cons, List.filterMap_nil, List.getElem?_toArray, List.getElem?_cons_zero, List.getElem?_cons_succ]
      go_wp2_with fail
      refine HK.out _ _ ?_
      clear HK K
      have sphbs := Ext.block ((sph0.trans sph1).trans sph2) spHBA.out
      have spcs := blk10 sphbs
      have spf0 := fr_of sphbs 0
      have spf1 := fr_of sphbs 1
      have spf2 := fr_of sphbs 2
      have spf3 := fr_of sphbs 3
      have spf4 := fr_of sphbs 4
      have spf5 := fr_of sphbs 5
      have spf6 := fr_of sphbs 6
      have spf7 := fr_of sphbs 7
      have spf8 := fr_of sphbs 8
      have spf9 := fr_of sphbs 9
      have spHBS := Lib.hid sphbs; clear sphbs
      refine badStep (by kernel_rfl) (fun K HK => ?_)
      simp only [pick, List.filterMap_cons, List.filterMap_nil, List.getElem?_toArray, List.getElem?_cons_zero, List.getElem?_cons_succ]
      go_wp2_with fail
      refine HK.out _ _ ?_
      clear HK K
      refine blkStep (fun K HK => ?_)
      simp only [pick, List.filterMap_cons, List.filterMap_nil, List.getElem?_toArray, List.getElem?_cons_zero, List.getElem?_cons_succ]
      go_wp2_with fail
      refine HK.out _ _ ?_
      clear HK K
      refine doneStep (by kernel_rfl) ?_
      go_wp2_with fail
      go_meet
      obtain ⟨wq, hwq, hbq, hcq, hsq⟩ := pk_set spHBS.out (.int .i64 (verCur a0 a1).kind) (.int .i64 (verCur a0 a1).src) (.int .i64 (verCur a0 a1).dst) ((.slice spp0 ((verCur a0 a1).path.parts).length spc0)) (.int .i64 (verCur a0 a1).pi) (.int .i64 (verCur a0 a1).hi) (.int .i64 (verCur a0 a1).beta) (.int .i64 (verCur a0 a1).rid) (.int .i64 (verCur a0 a1).seq) ((.slice spp1 ((verCur a0 a1).pay).length spc1))
      rw [← hwq]
      exact ⟨_, _, _, rfl, rfl, hbq, (Ext.refl _).drew.size, Pkt.own_mono (Pkt.own_kept (Pkt.own_ext spoo (Ext.refl _)) hcq (fun b hb e => absurd hb.1 (by rw [e]; exact Nat.not_le.2 (Nat.lt_of_lt_of_le (blk_lt spHBA.out) (sph0.trans sph1).size)))) (fun b hb => ⟨Nat.le_trans ((((Ext.refl _).drew.trans ((Ext.refl _).alloc _)).trans sph0).trans sph1).size hb.1, by rw [hsq]; exact Nat.lt_of_lt_of_le hb.2 (Ext.refl _).size⟩), (((((Ext.refl _).drew.trans ((Ext.refl _).alloc _)).trans sph0).trans sph1).trans sph2).chg1 hcq (Ext.refl _).drew.size⟩
  case rest =>
    obtain ⟨spg, spu0, spu1, rfl, rfl, sphb, sphg, spoo, sphx⟩ := hcut
    obtain ⟨w5, hwn⟩ : ∃ wA : World, wA = wc := ⟨_, rfl⟩
    subst hwn
    have spHB := Lib.hid sphb; clear sphb
    obtain ⟨spp0, spc0, rfl, spl0⟩ := (Pkt.own_rd0 spoo).shape; clear spl0
    obtain ⟨spp1, spc1, rfl, spl1⟩ := (Pkt.own_rd1 spoo).shape; clear spl1
    have hc25 := blk2 (Ext.block (((e1.trans h3).trans h4).trans sphx) HB0.out)
    have hc26 := blk10 (Ext.block ((h3.trans h4).trans sphx) HB1.out)
    have hc27 := blk10 spHB.out
    go_wp2_with fail
    refine (l_toTopologyO a0 v0h0 v0h1 _ (r0h0.ext ((((e0.trans e1).trans h3).trans h4).trans sphx)) (r0h1.ext ((((e0.trans e1).trans h3).trans h4).trans sphx)) y0).mono ?_
    rintro e w6 ⟨x0u0, x0u1, rfl, x0o0, h6⟩
    obtain ⟨x0sp0, x0sc0, rfl, x0sl0⟩ := (Topo.own_rd0 x0o0).shape; clear x0sl0
    obtain ⟨x0sp1, x0sc1, rfl, x0sl1⟩ := (Topo.own_rd1 x0o0).shape; clear x0sl1
    have e6 : Ext w6 (w6.alloc (.cells #[(.slice x0sp0 (a0.ases).length x0sc0), (.slice x0sp1 (a0.links).length x0sc1)] 71)) := (Ext.refl _).alloc _
    have hB6 := blk_new w6 (.cells #[(.slice x0sp0 (a0.ases).length x0sc0), (.slice x0sp1 (a0.links).length x0sc1)] 71)
    have HB6 := Lib.hid hB6; clear hB6
    have hc28 := blk2 (Ext.block (((((e1.trans h3).trans h4).trans sphx).trans h6).trans e6) HB0.out)
    have hc29 := blk10 (Ext.block ((((h3.trans h4).trans sphx).trans h6).trans e6) HB1.out)
    have hc30 := blk10 (Ext.block (h6.trans e6) spHB.out)
    go_wp2_with fail
    refine (l_toPacket a1 v1h0 v1h1 _ (r1h0.ext ((((((e0.trans e1).trans h3).trans h4).trans sphx).trans h6).trans e6)) (r1h1.ext ((((((e0.trans e1).trans h3).trans h4).trans sphx).trans h6).trans e6)) y1).mono ?_
    rintro e w8 ⟨x1u0, x1u1, rfl, x1o0, h8⟩
    obtain ⟨x1sp0, x1sc0, rfl, x1sl0⟩ := (Pkt.own_rd0 x1o0).shape; clear x1sl0
    obtain ⟨x1sp1, x1sc1, rfl, x1sl1⟩ := (Pkt.own_rd1 x1o0).shape; clear x1sl1
    have e8 : Ext w8 (w8.alloc (.cells #[.int .i64 a1.kind, .int .i64 a1.src, .int .i64 a1.dst, (.slice x1sp0 (a1.path.parts).length x1sc0), .int .i64 a1.pi, .int .i64 a1.hi, .int .i64 a1.beta, .int .i64 a1.rid, .int .i64 a1.seq, (.slice x1sp1 (a1.pay).length x1sc1)] 78)) := (Ext.refl _).alloc _
    have hB8 := blk_new w8 (.cells #[.int .i64 a1.kind, .int .i64 a1.src, .int .i64 a1.dst, (.slice x1sp0 (a1.path.parts).length x1sc0), .int .i64 a1.pi, .int .i64 a1.hi, .int .i64 a1.beta, .int .i64 a1.rid, .int .i64 a1.seq, (.slice x1sp1 (a1.pay).length x1sc1)] 78)
    have HB8 := Lib.hid hB8; clear hB8
    have hc32 := blk2 (Ext.block (((((((e1.trans h3).trans h4).trans sphx).trans h6).trans e6).trans h8).trans e8) HB0.out)
    have hc33 := blk10 (Ext.block ((((((h3.trans h4).trans sphx).trans h6).trans e6).trans h8).trans e8) HB1.out)
    have hc34 := blk10 (Ext.block (((h6.trans e6).trans h8).trans e8) spHB.out)
    have hc35 := blk2 (Ext.block (h8.trans e8) HB6.out)
    go_wp2_with fail
    refine (i_VerifyCurrentHop a0 (.slice x0sp0 (a0.ases).length x0sc0) (.slice x0sp1 (a0.links).length x0sc1) a1 (.slice x1sp0 (a1.path.parts).length x1sc0) (.slice x1sp1 (a1.pay).length x1sc1) _ ((Topo.own_rd0 x0o0).ext ((e6.trans h8).trans e8)) ((Topo.own_rd1 x0o0).ext ((e6.trans h8).trans e8)) ((Pkt.own_rd0 x1o0).ext e8) ((Pkt.own_rd1 x1o0).ext e8) y1).mono ?_
    rintro e w10 ⟨gpu0, gpu1, rfl, gpo0, h10⟩
    obtain ⟨gpp0, gpc0, rfl, gpl0⟩ := (Pkt.own_rd0 gpo0).shape; clear gpl0
    obtain ⟨gpp1, gpc1, rfl, gpl1⟩ := (Pkt.own_rd1 gpo0).shape; clear gpl1
    have e10 : Ext w10 (w10.alloc (.cells #[.int .i64 (verCur a0 a1).kind, .int .i64 (verCur a0 a1).src, .int .i64 (verCur a0 a1).dst, (.slice gpp0 ((verCur a0 a1).path.parts).length gpc0), .int .i64 (verCur a0 a1).pi, .int .i64 (verCur a0 a1).hi, .int .i64 (verCur a0 a1).beta, .int .i64 (verCur a0 a1).rid, .int .i64 (verCur a0 a1).seq, (.slice gpp1 ((verCur a0 a1).pay).length gpc1)] 78)) := (Ext.refl _).alloc _
    have hB10 := blk_new w10 (.cells #[.int .i64 (verCur a0 a1).kind, .int .i64 (verCur a0 a1).src, .int .i64 (verCur a0 a1).dst, (.slice gpp0 ((verCur a0 a1).path.parts).length gpc0), .int .i64 (verCur a0 a1).pi, .int .i64 (verCur a0 a1).hi, .int .i64 (verCur a0 a1).beta, .int .i64 (verCur a0 a1).rid, .int .i64 (verCur a0 a1).seq, (.slice gpp1 ((verCur a0 a1).pay).length gpc1)] 78)
    have HB10 := Lib.hid hB10; clear hB10
    have hc37 := blk2 (Ext.block (((((((((e1.trans h3).trans h4).trans sphx).trans h6).trans e6).trans h8).trans e8).trans h10).trans e10) HB0.out)
    have hc38 := blk10 (Ext.block ((((((((h3.trans h4).trans sphx).trans h6).trans e6).trans h8).trans e8).trans h10).trans e10) HB1.out)
    have hc39 := blk10 (Ext.block (((((h6.trans e6).trans h8).trans e8).trans h10).trans e10) spHB.out)
    have hc40 := blk2 (Ext.block (((h8.trans e8).trans h10).trans e10) HB6.out)
    have hc41 := blk10 (Ext.block (h10.trans e10) HB8.out)
    go_wp2_with fail
    refine (l_eqPacket (verCur a0 a1) (verCur a0 a1) (.slice gpp0 ((verCur a0 a1).path.parts).length gpc0) (.slice gpp1 ((verCur a0 a1).pay).length gpc1) (.slice spp0 ((verCur a0 a1).path.parts).length spc0) (.slice spp1 ((verCur a0 a1).pay).length spc1) _ ((Pkt.own_rd0 gpo0).ext e10) ((Pkt.own_rd1 gpo0).ext e10) ((Pkt.own_rd0 spoo).ext (((((h6.trans e6).trans h8).trans e8).trans h10).trans e10)) ((Pkt.own_rd1 spoo).ext (((((h6.trans e6).trans h8).trans e8).trans h10).trans e10))).mono ?_
    rintro e w12 ⟨rfl, h12⟩
    rw [show decide ((verCur a0 a1) = (verCur a0 a1)) = true from decide_eq_true rfl]
    have hc43 := blk2 (Ext.block ((((((((((e1.trans h3).trans h4).trans sphx).trans h6).trans e6).trans h8).trans e8).trans h10).trans e10).trans h12) HB0.out)
    have hc44 := blk10 (Ext.block (((((((((h3.trans h4).trans sphx).trans h6).trans e6).trans h8).trans e8).trans h10).trans e10).trans h12) HB1.out)
    have hc45 := blk10 (Ext.block ((((((h6.trans e6).trans h8).trans e8).trans h10).trans e10).trans h12) spHB.out)
    have hc46 := blk2 (Ext.block ((((h8.trans e8).trans h10).trans e10).trans h12) HB6.out)
    have hc47 := blk10 (Ext.block ((h10.trans e10).trans h12) HB8.out)
    have hc48 := blk10 (Ext.block h12 HB10.out)
    go_wp2_with fail
    refine planStep (.blk [0, 1] (.one 2 (.one 3 (.blk [4] .done)))) [] (by kernel_rfl) (by kernel_rfl) ?_
    refine blkStep (fun K HK => ?_)
    simp only [pick, List.filterMap_cons, List.filterMap_nil, List.getElem?_toArray, List.getElem?_cons_zero, List.getElem?_cons_succ]
    go_wp2_with fail
    refine HK.out _ _ ?_
    clear HK K
    refine oneStep (fun K HK => ?_)
    simp only [pick, List.filterMap_cons, List.filterMap_nil, List.getElem?_toArray, List.getElem?_cons_zero, List.getElem?_cons_succ]
    go_wp2_with fail
    refine (l_toTopologyO a0 v0h0 v0h1 _ (r0h0.ext (((((((((((e0.trans e1).trans h3).trans h4).trans sphx).trans h6).trans e6).trans h8).trans e8).trans h10).trans e10).trans h12).drew) (r0h1.ext (((((((((((e0.trans e1).trans h3).trans h4).trans sphx).trans h6).trans e6).trans h8).trans e8).trans h10).trans e10).trans h12).drew) y0).mono ?_
    rintro e w13 ⟨t0u0, t0u1, rfl, t0o0, h13⟩
    go_wp2_with fail
    refine HK.out _ _ (h13) ?_
    clear HK K
    refine oneStep (fun K HK => ?_)
    simp only [pick, List.filterMap_cons, List.filterMap_nil, List.getElem?_toArray, List.getElem?_cons_zero, List.getElem?_cons_succ]
    go_wp2_with fail
    refine (l_eqTopology a0 a0 (.slice x0sp0 (a0.ases).length x0sc0) (.slice x0sp1 (a0.links).length x0sc1) t0u0 t0u1 _ ((Topo.own_rd0 x0o0).ext ((((((e6.trans h8).trans e8).trans h10).trans e10).trans h12).trans ((Ext.refl _).drew.trans h13))) ((Topo.own_rd1 x0o0).ext ((((((e6.trans h8).trans e8).trans h10).trans e10).trans h12).trans ((Ext.refl _).drew.trans h13))) (Topo.own_rd0 t0o0) (Topo.own_rd1 t0o0)).mono ?_
    rintro e w14 ⟨rfl, h14⟩
    rw [show decide (a0 = a0) = true from decide_eq_true rfl]
    go_wp2_with fail
    refine HK.out _ _ (h14) ?_
    clear HK K
    refine blkStep (fun K HK => ?_)
    simp only [pick, List.filterMap_cons, List.filterMap_nil, List.getElem?_toArray, List.getElem?_cons_zero, List.getElem?_cons_succ]
    go_wp2_with fail
    refine HK.out _ _ ?_
    clear HK K
    refine doneStep (by kernel_rfl) ?_
    have hc49 := blk2 (Ext.block ((((((((((((e1.trans h3).trans h4).trans sphx).trans h6).trans e6).trans h8).trans e8).trans h10).trans e10).trans h12).trans ((Ext.refl _).drew.trans h13)).trans h14) HB0.out)
    have hc50 := blk10 (Ext.block (((((((((((h3.trans h4).trans sphx).trans h6).trans e6).trans h8).trans e8).trans h10).trans e10).trans h12).trans ((Ext.refl _).drew.trans h13)).trans h14) HB1.out)
    have hc51 := blk10 (Ext.block ((((((((h6.trans e6).trans h8).trans e8).trans h10).trans e10).trans h12).trans ((Ext.refl _).drew.trans h13)).trans h14) spHB.out)
    have hc52 := blk2 (Ext.block ((((((h8.trans e8).trans h10).trans e10).trans h12).trans ((Ext.refl _).drew.trans h13)).trans h14) HB6.out)
    have hc53 := blk10 (Ext.block ((((h10.trans e10).trans h12).trans ((Ext.refl _).drew.trans h13)).trans h14) HB8.out)
    have hc54 := blk10 (Ext.block ((h12.trans ((Ext.refl _).drew.trans h13)).trans h14) HB10.out)
    go_wp2_with fail
    refine planStep (.blk [0, 1] (.one 2 (.one 3 (.blk [4] .done)))) [] (by kernel_rfl) (by kernel_rfl) ?_
    refine blkStep (fun K HK => ?_)
    simp only [pick, List.filterMap_cons, List.filterMap_nil, List.getElem?_toArray, List.getElem?_cons_zero, List.getElem?_cons_succ]
    go_wp2_with fail
    refine HK.out _ _ ?_
    clear HK K
    refine oneStep (fun K HK => ?_)
    simp only [pick, List.filterMap_cons, List.filterMap_nil, List.getElem?_toArray, List.getElem?_cons_zero, List.getElem?_cons_succ]
    go_wp2_with fail
    refine (l_toPacket a1 v1h0 v1h1 _ (r1h0.ext (((((((((((((e0.trans e1).trans h3).trans h4).trans sphx).trans h6).trans e6).trans h8).trans e8).trans h10).trans e10).trans h12).trans ((Ext.refl _).drew.trans h13)).trans h14).drew) (r1h1.ext (((((((((((((e0.trans e1).trans h3).trans h4).trans sphx).trans h6).trans e6).trans h8).trans e8).trans h10).trans e10).trans h12).trans ((Ext.refl _).drew.trans h13)).trans h14).drew) y1).mono ?_
    rintro e w15 ⟨t1u0, t1u1, rfl, t1o0, h15⟩
    go_wp2_with fail
    refine HK.out _ _ (h15) ?_
    clear HK K
    refine oneStep (fun K HK => ?_)
    simp only [pick, List.filterMap_cons, List.filterMap_nil, List.getElem?_toArray, List.getElem?_cons_zero, List.getElem?_cons_succ]
    go_wp2_with fail
    refine (l_eqPacket a1 a1 (.slice x1sp0 (a1.path.parts).length x1sc0) (.slice x1sp1 (a1.pay).length x1sc1) t1u0 t1u1 _ ((Pkt.own_rd0 x1o0).ext ((((((e8.trans h10).trans e10).trans h12).trans ((Ext.refl _).drew.trans h13)).trans h14).trans ((Ext.refl _).drew.trans h15))) ((Pkt.own_rd1 x1o0).ext ((((((e8.trans h10).trans e10).trans h12).trans ((Ext.refl _).drew.trans h13)).trans h14).trans ((Ext.refl _).drew.trans h15))) (Pkt.own_rd0 t1o0) (Pkt.own_rd1 t1o0)).mono ?_
    rintro e w16 ⟨rfl, h16⟩
    rw [show decide (a1 = a1) = true from decide_eq_true rfl]
    go_wp2_with fail
    refine HK.out _ _ (h16) ?_
    clear HK K
    refine blkStep (fun K HK => ?_)
    simp only [pick, List.filterMap_cons, List.filterMap_nil, List.getElem?_toArray, List.getElem?_cons_zero, List.getElem?_cons_succ]
    go_wp2_with fail
    refine HK.out _ _ ?_
    clear HK K
    refine doneStep (by kernel_rfl) ?_
    have hc55 := blk2 (Ext.block ((((((((((((((e1.trans h3).trans h4).trans sphx).trans h6).trans e6).trans h8).trans e8).trans h10).trans e10).trans h12).trans ((Ext.refl _).drew.trans h13)).trans h14).trans ((Ext.refl _).drew.trans h15)).trans h16) HB0.out)
    have hc56 := blk10 (Ext.block (((((((((((((h3.trans h4).trans sphx).trans h6).trans e6).trans h8).trans e8).trans h10).trans e10).trans h12).trans ((Ext.refl _).drew.trans h13)).trans h14).trans ((Ext.refl _).drew.trans h15)).trans h16) HB1.out)
    have hc57 := blk10 (Ext.block ((((((((((h6.trans e6).trans h8).trans e8).trans h10).trans e10).trans h12).trans ((Ext.refl _).drew.trans h13)).trans h14).trans ((Ext.refl _).drew.trans h15)).trans h16) spHB.out)
    have hc58 := blk2 (Ext.block ((((((((h8.trans e8).trans h10).trans e10).trans h12).trans ((Ext.refl _).drew.trans h13)).trans h14).trans ((Ext.refl _).drew.trans h15)).trans h16) HB6.out)
    have hc59 := blk10 (Ext.block ((((((h10.trans e10).trans h12).trans ((Ext.refl _).drew.trans h13)).trans h14).trans ((Ext.refl _).drew.trans h15)).trans h16) HB8.out)
    have hc60 := blk10 (Ext.block ((((h12.trans ((Ext.refl _).drew.trans h13)).trans h14).trans ((Ext.refl _).drew.trans h15)).trans h16) HB10.out)
    go_wp2_with fail
    refine (l_markTopology (a0) (.slice x0sp0 (a0.ases).length x0sc0) (.slice x0sp1 (a0.links).length x0sc1) (1) _ _ (Topo.own_ext x0o0 (((((((((e6.trans h8).trans e8).trans h10).trans e10).trans h12).trans ((Ext.refl _).drew.trans h13)).trans h14).trans ((Ext.refl _).drew.trans h15)).trans h16)) (by omega) (by omega)).mono ?_
    rintro e w17 ⟨rfl, mx0o, mx0c⟩
    have HB0m1 := Lib.hid (Chg.blk mx0c (Ext.block ((((((((((((((e1.trans h3).trans h4).trans sphx).trans h6).trans e6).trans h8).trans e8).trans h10).trans e10).trans h12).trans ((Ext.refl _).drew.trans h13)).trans h14).trans ((Ext.refl _).drew.trans h15)).trans h16) HB0.out) (.inl (Nat.lt_of_lt_of_le (blk_lt HB0.out) (((e1.trans h3).trans h4).trans sphx).size)))
    have HB1m1 := Lib.hid (Chg.blk mx0c (Ext.block (((((((((((((h3.trans h4).trans sphx).trans h6).trans e6).trans h8).trans e8).trans h10).trans e10).trans h12).trans ((Ext.refl _).drew.trans h13)).trans h14).trans ((Ext.refl _).drew.trans h15)).trans h16) HB1.out) (.inl (Nat.lt_of_lt_of_le (blk_lt HB1.out) ((h3.trans h4).trans sphx).size)))
    have spHBm1 := Lib.hid (Chg.blk mx0c (Ext.block ((((((((((h6.trans e6).trans h8).trans e8).trans h10).trans e10).trans h12).trans ((Ext.refl _).drew.trans h13)).trans h14).trans ((Ext.refl _).drew.trans h15)).trans h16) spHB.out) (.inl (Nat.lt_of_lt_of_le (blk_lt spHB.out) (Ext.refl _).size)))
    have HB6m1 := Lib.hid (Chg.blk mx0c (Ext.block ((((((((h8.trans e8).trans h10).trans e10).trans h12).trans ((Ext.refl _).drew.trans h13)).trans h14).trans ((Ext.refl _).drew.trans h15)).trans h16) HB6.out) (.inr (Ext.refl _).size))
    have HB8m1 := Lib.hid (Chg.blk mx0c (Ext.block ((((((h10.trans e10).trans h12).trans ((Ext.refl _).drew.trans h13)).trans h14).trans ((Ext.refl _).drew.trans h15)).trans h16) HB8.out) (.inr (e6.trans h8).size))
    have HB10m1 := Lib.hid (Chg.blk mx0c (Ext.block ((((h12.trans ((Ext.refl _).drew.trans h13)).trans h14).trans ((Ext.refl _).drew.trans h15)).trans h16) HB10.out) (.inr (((e6.trans h8).trans e8).trans h10).size))
    have spoo_m1 := Pkt.own_kept (Pkt.own_ext spoo ((((((((((h6.trans e6).trans h8).trans e8).trans h10).trans e10).trans h12).trans ((Ext.refl _).drew.trans h13)).trans h14).trans ((Ext.refl _).drew.trans h15)).trans h16)) mx0c (rng_apart (.inl (Ext.refl _).size))
    have x1o0_m1 := Pkt.own_kept (Pkt.own_ext x1o0 (((((((e8.trans h10).trans e10).trans h12).trans ((Ext.refl _).drew.trans h13)).trans h14).trans ((Ext.refl _).drew.trans h15)).trans h16)) mx0c (rng_apart (.inr e6.size))
    have gpo0_m1 := Pkt.own_kept (Pkt.own_ext gpo0 (((((e10.trans h12).trans ((Ext.refl _).drew.trans h13)).trans h14).trans ((Ext.refl _).drew.trans h15)).trans h16)) mx0c (rng_apart (.inr ((e6.trans h8).trans e8).size))
    have t0o0_m1 := Topo.own_kept (Topo.own_ext t0o0 ((h14.trans ((Ext.refl _).drew.trans h15)).trans h16)) mx0c (rng_apart (.inr (((((e6.trans h8).trans e8).trans h10).trans e10).trans h12).size))
    have t1o0_m1 := Pkt.own_kept (Pkt.own_ext t1o0 h16) mx0c (rng_apart (.inr (((((((e6.trans h8).trans e8).trans h10).trans e10).trans h12).trans ((Ext.refl _).drew.trans h13)).trans h14).size))
    have X1 := Ext.chg (((((((((((((((e0.trans e1).trans h3).trans h4).trans sphx).trans h6).trans e6).trans h8).trans e8).trans h10).trans e10).trans h12).trans ((Ext.refl _).drew.trans h13)).trans h14).trans ((Ext.refl _).drew.trans h15)).trans h16) mx0c (fun i hi => Nat.le_trans ((((e0.trans e1).trans h3).trans h4).trans sphx).size hi.1)
    have hc61 := blk2 HB0m1.out
    have hc62 := blk10 HB1m1.out
    have hc63 := blk10 spHBm1.out
    have hc64 := blk2 HB6m1.out
    have hc65 := blk10 HB8m1.out
    have hc66 := blk10 HB10m1.out
    go_wp2_with fail
    refine (l_markPacket (a1) (.slice x1sp0 (a1.path.parts).length x1sc0) (.slice x1sp1 (a1.pay).length x1sc1) (1 + (a0).cnt) _ _ x1o0_m1 (by omega) (by omega)).mono ?_
    rintro e w18 ⟨rfl, mx1o, mx1c⟩
    have HB0m2 := Lib.hid (Chg.blk mx1c HB0m1.out (.inl (Nat.lt_of_lt_of_le (blk_lt HB0.out) (((((e1.trans h3).trans h4).trans sphx).trans h6).trans e6).size)))
    have HB1m2 := Lib.hid (Chg.blk mx1c HB1m1.out (.inl (Nat.lt_of_lt_of_le (blk_lt HB1.out) ((((h3.trans h4).trans sphx).trans h6).trans e6).size)))
    have spHBm2 := Lib.hid (Chg.blk mx1c spHBm1.out (.inl (Nat.lt_of_lt_of_le (blk_lt spHB.out) (h6.trans e6).size)))
    have HB6m2 := Lib.hid (Chg.blk mx1c HB6m1.out (.inl (Nat.lt_of_lt_of_le (blk_lt HB6.out) (Ext.refl _).size)))
    have HB8m2 := Lib.hid (Chg.blk mx1c HB8m1.out (.inr (Ext.refl _).size))
    have HB10m2 := Lib.hid (Chg.blk mx1c HB10m1.out (.inr (e8.trans h10).size))
    have spoo_m2 := Pkt.own_kept spoo_m1 mx1c (rng_apart (.inl (h6.trans e6).size))
    have mx0o_m2 := Topo.own_kept mx0o mx1c (rng_apart (.inl e6.size))
    have gpo0_m2 := Pkt.own_kept gpo0_m1 mx1c (rng_apart (.inr e8.size))
    have t0o0_m2 := Topo.own_kept t0o0_m1 mx1c (rng_apart (.inr (((e8.trans h10).trans e10).trans h12).size))
    have t1o0_m2 := Pkt.own_kept t1o0_m1 mx1c (rng_apart (.inr (((((e8.trans h10).trans e10).trans h12).trans ((Ext.refl _).drew.trans h13)).trans h14).size))
    have X2 := Ext.chg (X1.trans (Ext.refl _)) mx1c (fun i hi => Nat.le_trans ((((((e0.trans e1).trans h3).trans h4).trans sphx).trans h6).trans e6).size hi.1)
    have hqp : ¬ (1 + (a0).cnt + (a1).cnt) < 0 := by omega
    have hc67 := blk2 HB0m2.out
    have hc68 := blk10 HB1m2.out
    have hc69 := blk10 spHBm2.out
    have hc70 := blk2 HB6m2.out
    have hc71 := blk10 HB8m2.out
    have hc72 := blk10 HB10m2.out
    go_wp2_with fail
    refine (l_eqPacket (verCur a0 a1) (verCur a0 a1) (.slice gpp0 ((verCur a0 a1).path.parts).length gpc0) (.slice gpp1 ((verCur a0 a1).pay).length gpc1) (.slice spp0 ((verCur a0 a1).path.parts).length spc0) (.slice spp1 ((verCur a0 a1).pay).length spc1) _ (Pkt.own_rd0 gpo0_m2) (Pkt.own_rd1 gpo0_m2) (Pkt.own_rd0 spoo_m2) (Pkt.own_rd1 spoo_m2)).mono ?_
    rintro e w19 ⟨rfl, h19⟩
    rw [show decide ((verCur a0 a1) = (verCur a0 a1)) = true from decide_eq_true rfl]
    have hc73 := blk2 (Ext.block h19 HB0m2.out)
    have hc74 := blk10 (Ext.block h19 HB1m2.out)
    have hc75 := blk10 (Ext.block h19 spHBm2.out)
    have hc76 := blk2 (Ext.block h19 HB6m2.out)
    have hc77 := blk10 (Ext.block h19 HB8m2.out)
    have hc78 := blk10 (Ext.block h19 HB10m2.out)
    go_wp2_with fail
    refine (l_markPacket ((verCur a0 a1)) (.slice gpp0 ((verCur a0 a1).path.parts).length gpc0) (.slice gpp1 ((verCur a0 a1).pay).length gpc1) (1) _ _ (Pkt.own_ext gpo0_m2 h19) (by omega) (by omega)).mono ?_
    rintro e w20 ⟨rfl, mgo, mgc⟩
    have HB0m3 := Lib.hid (Chg.blk mgc (Ext.block h19 HB0m2.out) (.inl (Nat.lt_of_lt_of_le (blk_lt HB0.out) (((((((e1.trans h3).trans h4).trans sphx).trans h6).trans e6).trans h8).trans e8).size)))
    have HB1m3 := Lib.hid (Chg.blk mgc (Ext.block h19 HB1m2.out) (.inl (Nat.lt_of_lt_of_le (blk_lt HB1.out) ((((((h3.trans h4).trans sphx).trans h6).trans e6).trans h8).trans e8).size)))
    have spHBm3 := Lib.hid (Chg.blk mgc (Ext.block h19 spHBm2.out) (.inl (Nat.lt_of_lt_of_le (blk_lt spHB.out) (((h6.trans e6).trans h8).trans e8).size)))
    have HB6m3 := Lib.hid (Chg.blk mgc (Ext.block h19 HB6m2.out) (.inl (Nat.lt_of_lt_of_le (blk_lt HB6.out) (h8.trans e8).size)))
    have HB8m3 := Lib.hid (Chg.blk mgc (Ext.block h19 HB8m2.out) (.inl (Nat.lt_of_lt_of_le (blk_lt HB8.out) (Ext.refl _).size)))
    have HB10m3 := Lib.hid (Chg.blk mgc (Ext.block h19 HB10m2.out) (.inr (Ext.refl _).size))
    have spoo_m3 := Pkt.own_kept (Pkt.own_ext spoo_m2 h19) mgc (rng_apart (.inl (((h6.trans e6).trans h8).trans e8).size))
    have mx0o_m3 := Topo.own_kept (Topo.own_ext mx0o_m2 h19) mgc (rng_apart (.inl ((e6.trans h8).trans e8).size))
    have mx1o_m3 := Pkt.own_kept (Pkt.own_ext mx1o h19) mgc (rng_apart (.inl e8.size))
    have t0o0_m3 := Topo.own_kept (Topo.own_ext t0o0_m2 h19) mgc (rng_apart (.inr (e10.trans h12).size))
    have t1o0_m3 := Pkt.own_kept (Pkt.own_ext t1o0_m2 h19) mgc (rng_apart (.inr (((e10.trans h12).trans ((Ext.refl _).drew.trans h13)).trans h14).size))
    have X3 := Ext.chg (X2.trans h19) mgc (fun i hi => Nat.le_trans ((((((((e0.trans e1).trans h3).trans h4).trans sphx).trans h6).trans e6).trans h8).trans e8).size hi.1)
    have hc79 := blk2 HB0m3.out
    have hc80 := blk10 HB1m3.out
    have hc81 := blk10 spHBm3.out
    have hc82 := blk2 HB6m3.out
    have hc83 := blk10 HB8m3.out
    have hc84 := blk10 HB10m3.out
    go_wp2_with fail
    refine (l_heldPacket ((verCur a0 a1)) (.slice gpp0 ((verCur a0 a1).path.parts).length gpc0) (.slice gpp1 ((verCur a0 a1).pay).length gpc1) (1) _ (Pkt.own_rd0 mgo) (Pkt.own_rd1 mgo) (by omega) (by omega)).mono ?_
    rintro e w21 ⟨rfl, h21⟩
    have hmp : ¬ (1 + ((verCur a0 a1)).cnt) < 0 := by omega
    have hc85 := blk2 (Ext.block h21 HB0m3.out)
    have hc86 := blk10 (Ext.block h21 HB1m3.out)
    have hc87 := blk10 (Ext.block h21 spHBm3.out)
    have hc88 := blk2 (Ext.block h21 HB6m3.out)
    have hc89 := blk10 (Ext.block h21 HB8m3.out)
    have hc90 := blk10 (Ext.block h21 HB10m3.out)
    go_upto_region 31 with (fail)
    go_cut [15, 16] (fun vb vv wx => ∃ g hpu0 hpu1, vb = .pointer (some ⟨g, 0, none⟩) ∧ vv = .bool (curOk a0 a1) ∧ wx.heap[g]? = some (.cells #[.int .i64 (verCur a0 a1).kind, .int .i64 (verCur a0 a1).src, .int .i64 (verCur a0 a1).dst, hpu0, .int .i64 (verCur a0 a1).pi, .int .i64 (verCur a0 a1).hi, .int .i64 (verCur a0 a1).beta, .int .i64 (verCur a0 a1).rid, .int .i64 (verCur a0 a1).seq, hpu1] 78) ∧ w21.heap.size ≤ g ∧ Pkt.own (rng w21.heap.size wx.heap.size) wx hpu0 hpu1 (verCur a0 a1) ∧ Ext w21 wx)
    case first =>
      refine planStep (.blk [0, 2] (.two 1 8 (.two 3 8 (.two 4 8 (.blk [5, 6, 7] (.one 8 (.one 9 (.blk [10] .done)))) (.one 4 (.blk [5, 6, 7] (.one 9 (.blk [10] .done))))) (.one 3 (.one 4 (.blk [5, 6, 7] (.one 9 (.blk [10] .done)))))) (.one 1 (.one 3 (.one 4 (.blk [5, 6, 7] (.one 9 (.blk [10] .done)))))))) [9] (by kernel_rfl) (by kernel_rfl) ?_
      refine blkStep (fun K HK => ?_)
      simp only [pick, List.filterMap_cons, List.filterMap_nil, List.getElem?_toArray, List.getElem?_cons_zero, List.getElem?_cons_succ]
      go_wp2_with fail
      refine HK.out _ _ ?_
      clear HK K
      refine twoStep ?_ ?_
      · refine oneStep (fun K HK => ?_)
        simp only [pick, List.filterMap_cons, List.filterMap_nil, List.getElem?_toArray, List.getElem?_cons_zero, List.getElem?_cons_succ]
        go_wp2_with fail
        refine (l_toTopologyO a0 v0h0 v0h1 _ (r0h0.ext ((X3.trans h21).trans (Ext.refl _).drew)) (r0h1.ext ((X3.trans h21).trans (Ext.refl _).drew)) y0).mono ?_
        rintro e hpw0 ⟨hp0v0, hp0v1, rfl, hp0o, hph0⟩
        have hc91 := blk2 (Ext.block (h21.trans ((Ext.refl _).drew.trans hph0)) HB0m3.out)
        have hc92 := blk10 (Ext.block (h21.trans ((Ext.refl _).drew.trans hph0)) HB1m3.out)
        have hc93 := blk10 (Ext.block (h21.trans ((Ext.refl _).drew.trans hph0)) spHBm3.out)
        have hc94 := blk2 (Ext.block (h21.trans ((Ext.refl _).drew.trans hph0)) HB6m3.out)
        have hc95 := blk10 (Ext.block (h21.trans ((Ext.refl _).drew.trans hph0)) HB8m3.out)
        have hc96 := blk10 (Ext.block (h21.trans ((Ext.refl _).drew.trans hph0)) HB10m3.out)
        go_wp2_with fail
        refine HK.out _ _ hph0 ?_
        clear HK K
        refine twoStep ?_ ?_
        · refine oneStep (fun K HK => ?_)
          simp only [pick, List.filterMap_cons, List.filterMap_nil, List.getElem?_toArray, List.getElem?_cons_zero, List.getElem?_cons_succ]
          go_wp2_with fail
          refine (l_toPacket a1 v1h0 v1h1 _ (r1h0.ext ((X3.trans h21).trans ((Ext.refl _).drew.trans hph0))) (r1h1.ext ((X3.trans h21).trans ((Ext.refl _).drew.trans hph0))) y1).mono ?_
          rintro e hpw1 ⟨hp1v0, hp1v1, rfl, hp1o, hph1⟩
          have hc97 := blk2 (Ext.block (h21.trans (((Ext.refl _).drew.trans hph0).trans hph1)) HB0m3.out)
          have hc98 := blk10 (Ext.block (h21.trans (((Ext.refl _).drew.trans hph0).trans hph1)) HB1m3.out)
          have hc99 := blk10 (Ext.block (h21.trans (((Ext.refl _).drew.trans hph0).trans hph1)) spHBm3.out)
          have hc100 := blk2 (Ext.block (h21.trans (((Ext.refl _).drew.trans hph0).trans hph1)) HB6m3.out)
          have hc101 := blk10 (Ext.block (h21.trans (((Ext.refl _).drew.trans hph0).trans hph1)) HB8m3.out)
          have hc102 := blk10 (Ext.block (h21.trans (((Ext.refl _).drew.trans hph0).trans hph1)) HB10m3.out)
          go_wp2_with fail
          refine HK.out _ _ hph1 ?_
          clear HK K
          refine twoStep ?_ ?_
          · refine oneStep (fun K HK => ?_)
            simp only [pick, List.filterMap_cons, List.filterMap_nil, List.getElem?_toArray, List.getElem?_cons_zero, List.getElem?_cons_succ]
            go_wp2_with fail
            refine (i_VerifyCurrentHop a0 hp0v0 hp0v1 a1 hp1v0 hp1v1 _ (Topo.own_rd0 (Topo.own_ext hp0o hph1)) (Topo.own_rd1 (Topo.own_ext hp0o hph1)) (Pkt.own_rd0 (Pkt.own_ext hp1o (Ext.refl _))) (Pkt.own_rd1 (Pkt.own_ext hp1o (Ext.refl _))) y1).mono ?_
            rintro e hpw2 ⟨hpu0, hpu1, rfl, hpoo, hph2⟩
            obtain ⟨hpp0, hpc0, rfl, hpl0⟩ := (Pkt.own_rd0 hpoo).shape; clear hpl0
            obtain ⟨hpp1, hpc1, rfl, hpl1⟩ := (Pkt.own_rd1 hpoo).shape; clear hpl1
            have hc103 := blk2 (Ext.block (h21.trans ((((Ext.refl _).drew.trans hph0).trans hph1).trans hph2)) HB0m3.out)
            have hc104 := blk10 (Ext.block (h21.trans ((((Ext.refl _).drew.trans hph0).trans hph1).trans hph2)) HB1m3.out)
            have hc105 := blk10 (Ext.block (h21.trans ((((Ext.refl _).drew.trans hph0).trans hph1).trans hph2)) spHBm3.out)
            have hc106 := blk2 (Ext.block (h21.trans ((((Ext.refl _).drew.trans hph0).trans hph1).trans hph2)) HB6m3.out)
            have hc107 := blk10 (Ext.block (h21.trans ((((Ext.refl _).drew.trans hph0).trans hph1).trans hph2)) HB8m3.out)
            have hc108 := blk10 (Ext.block (h21.trans ((((Ext.refl _).drew.trans hph0).trans hph1).trans hph2)) HB10m3.out)
            go_wp2_with fail
            refine HK.out _ _ hph2 ?_
            clear HK K
            refine blkStep (fun K HK => ?_)
            simp only [pick, List.filterMap_cons, List.filterMap_nil, List.getElem?_toArray, List.getElem?_cons_zero, List.getElem?_cons_succ]
            go_wp2_with fail
            refine HK.out _ _ ?_
            clear HK K
            refine oneStep (fun K HK => ?_)
            simp only [pick, List.filterMap_cons, List.filterMap_nil, List.getElem?_toArray, List.getElem?_cons_zero, List.getElem?_cons_succ]
            go_wp2_with fail
            refine HK.out _ _ ((Ext.refl _).alloc _) ?_
            clear HK K
            refine badStep (by kernel_rfl) (fun K HK => ?_)
            simp only [pick, List.filterMap_cons, List.filterMap_nil, List.getElem?_toArray, List.getElem?_cons_zero, List.getElem?_cons_succ]
            go_wp2_with fail
            refine HK.out _ _ ?_
            clear HK K
            refine blkStep (fun K HK => ?_)
            simp only [pick, List.filterMap_cons, List.filterMap_nil, List.getElem?_toArray, List.getElem?_cons_zero, List.getElem?_cons_succ]
            go_wp2_with fail
            refine HK.out _ _ ?_
            clear HK K
            refine doneStep (by kernel_rfl) ?_
            go_wp2_with fail
            go_meet
            exact ⟨_, _, _, rfl, rfl, blk_new _ _, ((((Ext.refl _).drew.trans hph0).trans hph1).trans hph2).size, Pkt.own_mono (Pkt.own_ext hpoo ((Ext.refl _).alloc _)) (fun b hb => ⟨by have h1 := hb.1; exact Nat.le_trans (((Ext.refl _).drew.trans hph0).trans hph1).size h1, Nat.lt_of_lt_of_le hb.2 ((Ext.refl _).alloc _).size⟩), ((((Ext.refl _).drew.trans hph0).trans hph1).trans hph2).alloc _⟩
          · have hphba := blk_new hpw1 (.cells #[.int .i64 0, .int .i64 0, .int .i64 0, .slice none 0 0, .int .i64 0, .int .i64 0, .int .i64 0, .int .i64 0, .int .i64 0, .slice none 0 0] 78)
            have hpHBA := Lib.hid hphba; clear hphba
            refine oneStep (fun K HK => ?_)
            simp only [pick, List.filterMap_cons, List.filterMap_nil, List.getElem?_toArray, List.getElem?_cons_zero, List.getElem?_cons_succ]
            go_wp2_with fail
            refine HK.out _ _ ((Ext.refl _).alloc _) ?_
            clear HK K
            refine oneStep (fun K HK => ?_)
            simp only [pick, List.filterMap_cons, List.filterMap_nil, List.getElem?_toArray, List.getElem?_cons_zero, List.getElem?_cons_succ]
            go_wp2_with fail
            refine (i_VerifyCurrentHop a0 hp0v0 hp0v1 a1 hp1v0 hp1v1 _ (Topo.own_rd0 (Topo.own_ext hp0o (hph1.trans ((Ext.refl _).alloc _)))) (Topo.own_rd1 (Topo.own_ext hp0o (hph1.trans ((Ext.refl _).alloc _)))) (Pkt.own_rd0 (Pkt.own_ext hp1o ((Ext.refl _).alloc _))) (Pkt.own_rd1 (Pkt.own_ext hp1o ((Ext.refl _).alloc _))) y1).mono ?_
            rintro e hpw2 ⟨hpu0, hpu1, rfl, hpoo, hph2⟩
            obtain ⟨hpp0, hpc0, rfl, hpl0⟩ := (Pkt.own_rd0 hpoo).shape; clear hpl0
            obtain ⟨hpp1, hpc1, rfl, hpl1⟩ := (Pkt.own_rd1 hpoo).shape; clear hpl1
            have hc109 := blk2 (Ext.block (h21.trans (((((Ext.refl _).drew.trans hph0).trans hph1).trans ((Ext.refl _).alloc _)).trans hph2)) HB0m3.out)
            have hc110 := blk10 (Ext.block (h21.trans (((((Ext.refl _).drew.trans hph0).trans hph1).trans ((Ext.refl _).alloc _)).trans hph2)) HB1m3.out)
            have hc111 := blk10 (Ext.block (h21.trans (((((Ext.refl _).drew.trans hph0).trans hph1).trans ((Ext.refl _).alloc _)).trans hph2)) spHBm3.out)
            have hc112 := blk2 (Ext.block (h21.trans (((((Ext.refl _).drew.trans hph0).trans hph1).trans ((Ext.refl _).alloc _)).trans hph2)) HB6m3.out)
            have hc113 := blk10 (Ext.block (h21.trans (((((Ext.refl _).drew.trans hph0).trans hph1).trans ((Ext.refl _).alloc _)).trans hph2)) HB8m3.out)
            have hc114 := blk10 (Ext.block (h21.trans (((((Ext.refl _).drew.trans hph0).trans hph1).trans ((Ext.refl _).alloc _)).trans hph2)) HB10m3.out)
            go_wp2_with fail
            refine HK.out _ _ hph2 ?_
            clear HK K
            refine blkStep (fun K HK => ?_)
            simp only [pick, List.filterMap_cons, List.filterMap_nil, List.getElem?_toArray, List.getElem?_cons_zero, List.getElem?_cons_succ]
            go_wp2_with fail
            refine HK.out _ _ ?_
            clear HK K
            have hphbs := Ext.block hph2 hpHBA.out
            have hpcs := blk10 hphbs
            have hpf0 := fr_of hphbs 0
            have hpf1 := fr_of hphbs 1
            have hpf2 := fr_of hphbs 2
            have hpf3 := fr_of hphbs 3
            have hpf4 := fr_of hphbs 4
            have hpf5 := fr_of hphbs 5
            have hpf6 := fr_of hphbs 6
            have hpf7 := fr_of hphbs 7
            have hpf8 := fr_of hphbs 8
            have hpf9 := fr_of hphbs 9
            have hpHBS := Lib.hid hphbs; clear hphbs
            refine badStep (by kernel_rfl) (fun K HK => ?_)
            simp only [pick, List.filterMap_cons, List.filterMap_nil, List.getElem?_toArray, List.getElem?_cons_zero, List.getElem?_cons_succ]
            go_wp2_with fail
            refine HK.out _ _ ?_
            clear HK K
            refine blkStep (fun K HK => ?_)
            simp only [pick, List.filterMap_cons, List.filterMap_nil, List.getElem?_toArray, List.getElem?_cons_zero, List.getElem?_cons_succ]
            go_wp2_with fail
            refine HK.out _ _ ?_
            clear HK K
            refine doneStep (by kernel_rfl) ?_
            go_wp2_with fail
            go_meet
            obtain ⟨wq, hwq, hbq, hcq, hsq⟩ := pk_set hpHBS.out (.int .i64 (verCur a0 a1).kind) (.int .i64 (verCur a0 a1).src) (.int .i64 (verCur a0 a1).dst) ((.slice hpp0 ((verCur a0 a1).path.parts).length hpc0)) (.int .i64 (verCur a0 a1).pi) (.int .i64 (verCur a0 a1).hi) (.int .i64 (verCur a0 a1).beta) (.int .i64 (verCur a0 a1).rid) (.int .i64 (verCur a0 a1).seq) ((.slice hpp1 ((verCur a0 a1).pay).length hpc1))
            rw [← hwq]
            exact ⟨_, _, _, rfl, rfl, hbq, (((Ext.refl _).drew.trans hph0).trans hph1).size, Pkt.own_mono (Pkt.own_kept (Pkt.own_ext hpoo (Ext.refl _)) hcq (fun b hb e => absurd hb.1 (by rw [e]; exact Nat.not_le.2 (Nat.lt_of_lt_of_le (blk_lt hpHBA.out) (Ext.refl _).size)))) (fun b hb => ⟨Nat.le_trans ((((Ext.refl _).drew.trans hph0).trans hph1).trans ((Ext.refl _).alloc _)).size hb.1, by rw [hsq]; exact Nat.lt_of_lt_of_le hb.2 (Ext.refl _).size⟩), (((((Ext.refl _).drew.trans hph0).trans hph1).trans ((Ext.refl _).alloc _)).trans hph2).chg1 hcq (((Ext.refl _).drew.trans hph0).trans hph1).size⟩
        · have hphba := blk_new hpw0 (.cells #[.int .i64 0, .int .i64 0, .int .i64 0, .slice none 0 0, .int .i64 0, .int .i64 0, .int .i64 0, .int .i64 0, .int .i64 0, .slice none 0 0] 78)
          have hpHBA := Lib.hid hphba; clear hphba
          refine oneStep (fun K HK => ?_)
          simp only [pick, List.filterMap_cons, List.filterMap_nil, List.getElem?_toArray, List.getElem?_cons_zero, List.getElem?_cons_succ]
          go_wp2_with fail
          refine HK.out _ _ ((Ext.refl _).alloc _) ?_
          clear HK K
          refine oneStep (fun K HK => ?_)
          simp only [pick, List.filterMap_cons, List.filterMap_nil, List.getElem?_toArray, List.getElem?_cons_zero, List.getElem?_cons_succ]
          go_wp2_with fail
          refine (l_toPacket a1 v1h0 v1h1 _ (r1h0.ext ((X3.trans h21).trans (((Ext.refl _).drew.trans hph0).trans ((Ext.refl _).alloc _)))) (r1h1.ext ((X3.trans h21).trans (((Ext.refl _).drew.trans hph0).trans ((Ext.refl _).alloc _)))) y1).mono ?_
          rintro e hpw1 ⟨hp1v0, hp1v1, rfl, hp1o, hph1⟩
          have hc115 := blk2 (Ext.block (h21.trans ((((Ext.refl _).drew.trans hph0).trans ((Ext.refl _).alloc _)).trans hph1)) HB0m3.out)
          have hc116 := blk10 (Ext.block (h21.trans ((((Ext.refl _).drew.trans hph0).trans ((Ext.refl _).alloc _)).trans hph1)) HB1m3.out)
          have hc117 := blk10 (Ext.block (h21.trans ((((Ext.refl _).drew.trans hph0).trans ((Ext.refl _).alloc _)).trans hph1)) spHBm3.out)
          have hc118 := blk2 (Ext.block (h21.trans ((((Ext.refl _).drew.trans hph0).trans ((Ext.refl _).alloc _)).trans hph1)) HB6m3.out)
          have hc119 := blk10 (Ext.block (h21.trans ((((Ext.refl _).drew.trans hph0).trans ((Ext.refl _).alloc _)).trans hph1)) HB8m3.out)
          have hc120 := blk10 (Ext.block (h21.trans ((((Ext.refl _).drew.trans hph0).trans ((Ext.refl _).alloc _)).trans hph1)) HB10m3.out)
          go_wp2_with fail
          refine HK.out _ _ hph1 ?_
          clear HK K
          refine oneStep (fun K HK => ?_)
          simp only [pick, List.filterMap_cons, List.filterMap_nil, List.getElem?_toArray, List.getElem?_cons_zero, List.getElem?_cons_succ]
          go_wp2_with fail
          refine (i_VerifyCurrentHop a0 hp0v0 hp0v1 a1 hp1v0 hp1v1 _ (Topo.own_rd0 (Topo.own_ext hp0o (((Ext.refl _).alloc _).trans hph1))) (Topo.own_rd1 (Topo.own_ext hp0o (((Ext.refl _).alloc _).trans hph1))) (Pkt.own_rd0 (Pkt.own_ext hp1o (Ext.refl _))) (Pkt.own_rd1 (Pkt.own_ext hp1o (Ext.refl _))) y1).mono ?_
          rintro e hpw2 ⟨hpu0, hpu1, rfl, hpoo, hph2⟩
          obtain ⟨hpp0, hpc0, rfl, hpl0⟩ := (Pkt.own_rd0 hpoo).shape; clear hpl0
          obtain ⟨hpp1, hpc1, rfl, hpl1⟩ := (Pkt.own_rd1 hpoo).shape; clear hpl1
          have hc121 := blk2 (Ext.block (h21.trans (((((Ext.refl _).drew.trans hph0).trans ((Ext.refl _).alloc _)).trans hph1).trans hph2)) HB0m3.out)
          have hc122 := blk10 (Ext.block (h21.trans (((((Ext.refl _).drew.trans hph0).trans ((Ext.refl _).alloc _)).trans hph1).trans hph2)) HB1m3.out)
          have hc123 := blk10 (Ext.block (h21.trans (((((Ext.refl _).drew.trans hph0).trans ((Ext.refl _).alloc _)).trans hph1).trans hph2)) spHBm3.out)
          have hc124 := blk2 (Ext.block (h21.trans (((((Ext.refl _).drew.trans hph0).trans ((Ext.refl _).alloc _)).trans hph1).trans hph2)) HB6m3.out)
          have hc125 := blk10 (Ext.block (h21.trans (((((Ext.refl _).drew.trans hph0).trans ((Ext.refl _).alloc _)).trans hph1).trans hph2)) HB8m3.out)
          have hc126 := blk10 (Ext.block (h21.trans (((((Ext.refl _).drew.trans hph0).trans ((Ext.refl _).alloc _)).trans hph1).trans hph2)) HB10m3.out)
          go_wp2_with fail
          refine HK.out _ _ hph2 ?_
          clear HK K
          refine blkStep (fun K HK => ?_)
          simp only [pick, List.filterMap_cons, List.filterMap_nil, List.getElem?_toArray, List.getElem?_cons_zero, List.getElem?_cons_succ]
          go_wp2_with fail
          refine HK.out _ _ ?_
          clear HK K
          have hphbs := Ext.block (hph1.trans hph2) hpHBA.out
          have hpcs := blk10 hphbs
          have hpf0 := fr_of hphbs 0
          have hpf1 := fr_of hphbs 1
          have hpf2 := fr_of hphbs 2
          have hpf3 := fr_of hphbs 3
          have hpf4 := fr_of hphbs 4
          have hpf5 := fr_of hphbs 5
          have hpf6 := fr_of hphbs 6
          have hpf7 := fr_of hphbs 7
          have hpf8 := fr_of hphbs 8
          have hpf9 := fr_of hphbs 9
          have hpHBS := Lib.hid hphbs; clear hphbs
          refine badStep (by kernel_rfl) (fun K HK => ?_)
          simp only [pick, List.filterMap_cons, List.filterMap_nil, List.getElem?_toArray, List.getElem?_cons_zero, List.getElem?_cons_succ]
          go_wp2_with fail
          refine HK.out _ _ ?_
          clear HK K
          refine blkStep (fun K HK => ?_)
          simp only [pick, List.filterMap_cons, List.filterMap_nil, List.getElem?_toArray, List.getElem?_cons_zero, List.getElem?_cons_succ]
          go_wp2_with fail
          refine HK.out _ _ ?_
          clear HK K
          refine doneStep (by kernel_rfl) ?_
          go_wp2_with fail
          go_meet
          obtain ⟨wq, hwq, hbq, hcq, hsq⟩ := pk_set hpHBS.out (.int .i64 (verCur a0 a1).kind) (.int .i64 (verCur a0 a1).src) (.int .i64 (verCur a0 a1).dst) ((.slice hpp0 ((verCur a0 a1).path.parts).length hpc0)) (.int .i64 (verCur a0 a1).pi) (.int .i64 (verCur a0 a1).hi) (.int .i64 (verCur a0 a1).beta) (.int .i64 (verCur a0 a1).rid) (.int .i64 (verCur a0 a1).seq) ((.slice hpp1 ((verCur a0 a1).pay).length hpc1))
          rw [← hwq]
          exact ⟨_, _, _, rfl, rfl, hbq, ((Ext.refl _).drew.trans hph0).size, Pkt.own_mono (Pkt.own_kept (Pkt.own_ext hpoo (Ext.refl _)) hcq (fun b hb e => absurd hb.1 (by rw [e]; exact Nat.not_le.2 (Nat.lt_of_lt_of_le (blk_lt hpHBA.out) hph1.size)))) (fun b hb => ⟨Nat.le_trans ((((Ext.refl _).drew.trans hph0).trans ((Ext.refl _).alloc _)).trans hph1).size hb.1, by rw [hsq]; exact Nat.lt_of_lt_of_le hb.2 (Ext.refl _).size⟩), (((((Ext.refl _).drew.trans hph0).trans ((Ext.refl _).alloc _)).trans hph1).trans hph2).chg1 hcq ((Ext.refl _).drew.trans hph0).size⟩
      · have hphba := blk_new w21 (.cells #[.int .i64 0, .int .i64 0, .int .i64 0, .slice none 0 0, .int .i64 0, .int .i64 0, .int .i64 0, .int .i64 0, .int .i64 0, .slice none 0 0] 78)
        have hpHBA := Lib.hid hphba; clear hphba
        refine oneStep (fun K HK => ?_)
        simp only [pick, List.filterMap_cons, List.filterMap_nil, List.getElem?_toArray, List.getElem?_cons_zero, List.getElem?_cons_succ]
        go_wp2_with fail
        refine HK.out _ _ ((Ext.refl _).alloc _) ?_
        clear HK K
        refine oneStep (fun K HK => ?_)
        simp only [pick, List.filterMap_cons, List.filterMap_nil, List.getElem?_toArray, List.getElem?_cons_zero, List.getElem?_cons_succ]
        go_wp2_with fail
        refine (l_toTopologyO a0 v0h0 v0h1 _ (r0h0.ext ((X3.trans h21).trans ((Ext.refl _).drew.trans ((Ext.refl _).alloc _)))) (r0h1.ext ((X3.trans h21).trans ((Ext.refl _).drew.trans ((Ext.refl _).alloc _)))) y0).mono ?_
        rintro e hpw0 ⟨hp0v0, hp0v1, rfl, hp0o, hph0⟩
        have hc127 := blk2 (Ext.block (h21.trans (((Ext.refl _).drew.trans ((Ext.refl _).alloc _)).trans hph0)) HB0m3.out)
        have hc128 := blk10 (Ext.block (h21.trans (((Ext.refl _).drew.trans ((Ext.refl _).alloc _)).trans hph0)) HB1m3.out)
        have hc129 := blk10 (Ext.block (h21.trans (((Ext.refl _).drew.trans ((Ext.refl _).alloc _)).trans hph0)) spHBm3.out)
        have hc130 := blk2 (Ext.block (h21.trans (((Ext.refl _).drew.trans ((Ext.refl _).alloc _)).trans hph0)) HB6m3.out)
        have hc131 := blk10 (Ext.block (h21.trans (((Ext.refl _).drew.trans ((Ext.refl _).alloc _)).trans hph0)) HB8m3.out)
        have hc132 := blk10 (Ext.block (h21.trans (((Ext.refl _).drew.trans ((Ext.refl _).alloc _)).trans hph0)) HB10m3.out)
        go_wp2_with fail
        refine HK.out _ _ hph0 ?_
        clear HK K
        refine oneStep (fun K HK => ?_)
        simp only [pick, List.filterMap_cons, List.filterMap_nil, List.getElem?_toArray, List.getElem?_cons_zero, List.getElem?_cons_succ]
        go_wp2_with fail
        refine (l_toPacket a1 v1h0 v1h1 _ (r1h0.ext ((X3.trans h21).trans (((Ext.refl _).drew.trans ((Ext.refl _).alloc _)).trans hph0))) (r1h1.ext ((X3.trans h21).trans (((Ext.refl _).drew.trans ((Ext.refl _).alloc _)).trans hph0))) y1).mono ?_
        rintro e hpw1 ⟨hp1v0, hp1v1, rfl, hp1o, hph1⟩
        have hc133 := blk2 (Ext.block (h21.trans ((((Ext.refl _).drew.trans ((Ext.refl _).alloc _)).trans hph0).trans hph1)) HB0m3.out)
        have hc134 := blk10 (Ext.block (h21.trans ((((Ext.refl _).drew.trans ((Ext.refl _).alloc _)).trans hph0).trans hph1)) HB1m3.out)
        have hc135 := blk10 (Ext.block (h21.trans ((((Ext.refl _).drew.trans ((Ext.refl _).alloc _)).trans hph0).trans hph1)) spHBm3.out)
        have hc136 := blk2 (Ext.block (h21.trans ((((Ext.refl _).drew.trans ((Ext.refl _).alloc _)).trans hph0).trans hph1)) HB6m3.out)
        have hc137 := blk10 (Ext.block (h21.trans ((((Ext.refl _).drew.trans ((Ext.refl _).alloc _)).trans hph0).trans hph1)) HB8m3.out)
        have hc138 := blk10 (Ext.block (h21.trans ((((Ext.refl _).drew.trans ((Ext.refl _).alloc _)).trans hph0).trans hph1)) HB10m3.out)
        go_wp2_with fail
        refine HK.out _ _ hph1 ?_
        clear HK K
        refine oneStep (fun K HK => ?_)
        simp only [pick, List.filterMap_cons, List.filterMap_nil, List.getElem?_toArray, List.getElem?_cons_zero, List.getElem?_cons_succ]
        go_wp2_with fail
        refine (i_VerifyCurrentHop a0 hp0v0 hp0v1 a1 hp1v0 hp1v1 _ (Topo.own_rd0 (Topo.own_ext hp0o hph1)) (Topo.own_rd1 (Topo.own_ext hp0o hph1)) (Pkt.own_rd0 (Pkt.own_ext hp1o (Ext.refl _))) (Pkt.own_rd1 (Pkt.own_ext hp1o (Ext.refl _))) y1).mono ?_
        rintro e hpw2 ⟨hpu0, hpu1, rfl, hpoo, hph2⟩
        obtain ⟨hpp0, hpc0, rfl, hpl0⟩ := (Pkt.own_rd0 hpoo).shape; clear hpl0
        obtain ⟨hpp1, hpc1, rfl, hpl1⟩ := (Pkt.own_rd1 hpoo).shape; clear hpl1
        have hc139 := blk2 (Ext.block (h21.trans (((((Ext.refl _).drew.trans ((Ext.refl _).alloc _)).trans hph0).trans hph1).trans hph2)) HB0m3.out)
        have hc140 := blk10 (Ext.block (h21.trans (((((Ext.refl _).drew.trans ((Ext.refl _).alloc _)).trans hph0).trans hph1).trans hph2)) HB1m3.out)
        have hc141 := blk10 (Ext.block (h21.trans (((((Ext.refl _).drew.trans ((Ext.refl _).alloc _)).trans hph0).trans hph1).trans hph2)) spHBm3.out)
        have hc142 := blk2 (Ext.block (h21.trans (((((Ext.refl _).drew.trans ((Ext.refl _).alloc _)).trans hph0).trans hph1).trans hph2)) HB6m3.out)
        have hc143 := blk10 (Ext.block (h21.trans (((((Ext.refl _).drew.trans ((Ext.refl _).alloc _)).trans hph0).trans hph1).trans hph2)) HB8m3.out)
        have hc144 := blk10 (Ext.block (h21.trans (((((Ext.refl _).drew.trans ((Ext.refl _).alloc _)).trans hph0).trans hph1).trans hph2)) HB10m3.out)
        go_wp2_with fail
        refine HK.out _ _ hph2 ?_
        clear HK K
        refine blkStep (fun K HK => ?_)
        simp only [pick, List.filterMap_cons, List.filterMap_nil, List.getElem?_toArray, List.getElem?_cons_zero, List.getElem?_cons_succ]
        go_wp2_with fail
        refine HK.out _ _ ?_
        clear HK K
        have hphbs := Ext.block ((hph0.trans hph1).trans hph2) hpHBA.out
        have hpcs := blk10 hphbs
        have hpf0 := fr_of hphbs 0
        have hpf1 := fr_of hphbs 1
        have hpf2 := fr_of hphbs 2
        have hpf3 := fr_of hphbs 3
        have hpf4 := fr_of hphbs 4
        have hpf5 := fr_of hphbs 5
        have hpf6 := fr_of hphbs 6
        have hpf7 := fr_of hphbs 7
        have hpf8 := fr_of hphbs 8
        have hpf9 := fr_of hphbs 9
        have hpHBS := Lib.hid hphbs; clear hphbs
        refine badStep (by kernel_rfl) (fun K HK => ?_)
        simp only [pick, List.filterMap_cons, List.filterMap_nil, List.getElem?_toArray, List.getElem?_cons_zero, List.getElem?_cons_succ]
        go_wp2_with fail
        refine HK.out _ _ ?_
        clear HK K
        refine blkStep (fun K HK => ?_)
        simp only [pick, List.filterMap_cons, List.filterMap_nil, List.getElem?_toArray, List.getElem?_cons_zero, List.getElem?_cons_succ]
        go_wp2_with fail
        refine HK.out _ _ ?_
        clear HK K
        refine doneStep (by kernel_rfl) ?_
        go_wp2_with fail
        go_meet
        obtain ⟨wq, hwq, hbq, hcq, hsq⟩ := pk_set hpHBS.out (.int .i64 (verCur a0 a1).kind) (.int .i64 (verCur a0 a1).src) (.int .i64 (verCur a0 a1).dst) ((.slice hpp0 ((verCur a0 a1).path.parts).length hpc0)) (.int .i64 (verCur a0 a1).pi) (.int .i64 (verCur a0 a1).hi) (.int .i64 (verCur a0 a1).beta) (.int .i64 (verCur a0 a1).rid) (.int .i64 (verCur a0 a1).seq) ((.slice hpp1 ((verCur a0 a1).pay).length hpc1))
        rw [← hwq]
        exact ⟨_, _, _, rfl, rfl, hbq, (Ext.refl _).drew.size, Pkt.own_mono (Pkt.own_kept (Pkt.own_ext hpoo (Ext.refl _)) hcq (fun b hb e => absurd hb.1 (by rw [e]; exact Nat.not_le.2 (Nat.lt_of_lt_of_le (blk_lt hpHBA.out) (hph0.trans hph1).size)))) (fun b hb => ⟨Nat.le_trans ((((Ext.refl _).drew.trans ((Ext.refl _).alloc _)).trans hph0).trans hph1).size hb.1, by rw [hsq]; exact Nat.lt_of_lt_of_le hb.2 (Ext.refl _).size⟩), (((((Ext.refl _).drew.trans ((Ext.refl _).alloc _)).trans hph0).trans hph1).trans hph2).chg1 hcq (Ext.refl _).drew.size⟩
    case rest =>
      obtain ⟨hpg, hpu0, hpu1, rfl, rfl, hphb, hphg, hpoo, hphx⟩ := hcut
      obtain ⟨w22, hwn⟩ : ∃ wA : World, wA = wc := ⟨_, rfl⟩
      subst hwn
      have hpHB := Lib.hid hphb; clear hphb
      obtain ⟨hpp0, hpc0, rfl, hpl0⟩ := (Pkt.own_rd0 hpoo).shape; clear hpl0
      obtain ⟨hpp1, hpc1, rfl, hpl1⟩ := (Pkt.own_rd1 hpoo).shape; clear hpl1
      have hc145 := blk2 (Ext.block (h21.trans hphx) HB0m3.out)
      have hc146 := blk10 (Ext.block (h21.trans hphx) HB1m3.out)
      have hc147 := blk10 (Ext.block (h21.trans hphx) spHBm3.out)
      have hc148 := blk2 (Ext.block (h21.trans hphx) HB6m3.out)
      have hc149 := blk10 (Ext.block (h21.trans hphx) HB8m3.out)
      have hc150 := blk10 (Ext.block (h21.trans hphx) HB10m3.out)
      have hc151 := blk10 hpHB.out
      go_wp2_with fail
      refine (l_eqPacket (verCur a0 a1) (verCur a0 a1) (.slice hpp0 ((verCur a0 a1).path.parts).length hpc0) (.slice hpp1 ((verCur a0 a1).pay).length hpc1) (.slice spp0 ((verCur a0 a1).path.parts).length spc0) (.slice spp1 ((verCur a0 a1).pay).length spc1) _ (Pkt.own_rd0 hpoo) (Pkt.own_rd1 hpoo) ((Pkt.own_rd0 spoo_m3).ext (h21.trans hphx)) ((Pkt.own_rd1 spoo_m3).ext (h21.trans hphx))).mono ?_
      rintro e w23 ⟨rfl, h23⟩
      rw [show decide ((verCur a0 a1) = (verCur a0 a1)) = true from decide_eq_true rfl]
      have hc152 := blk2 (Ext.block ((h21.trans hphx).trans h23) HB0m3.out)
      have hc153 := blk10 (Ext.block ((h21.trans hphx).trans h23) HB1m3.out)
      have hc154 := blk10 (Ext.block ((h21.trans hphx).trans h23) spHBm3.out)
      have hc155 := blk2 (Ext.block ((h21.trans hphx).trans h23) HB6m3.out)
      have hc156 := blk10 (Ext.block ((h21.trans hphx).trans h23) HB8m3.out)
      have hc157 := blk10 (Ext.block ((h21.trans hphx).trans h23) HB10m3.out)
      have hc158 := blk10 (Ext.block h23 hpHB.out)
      go_wp2_with fail
      refine (l_heldPacket ((verCur a0 a1)) (.slice gpp0 ((verCur a0 a1).path.parts).length gpc0) (.slice gpp1 ((verCur a0 a1).pay).length gpc1) (1) _ ((Pkt.own_rd0 mgo).ext ((h21.trans hphx).trans h23)) ((Pkt.own_rd1 mgo).ext ((h21.trans hphx).trans h23)) (by omega) (by omega)).mono ?_
      rintro e w24 ⟨rfl, h24⟩
      go_wp2_with fail
      go_ret
      exact ⟨rfl, (X3.trans (((h21.trans hphx).trans h23).trans h24))⟩

end Go.Proofs.Ytjjoijidlgkimaa
