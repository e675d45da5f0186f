/- The walk of the exact law over the interfaces of a trace. No condition. -/
import Derived.Test.YtpeipodehflmaaaW29t
namespace Go.Proofs.Ytpeipodehflmaaa
open Go.ChangeShapes Go.WideShapes Go.ChangeAt Go.RowKit Go.Deep

theorem lmF_IntS (l : List Int) (v : Value) (k : Int) (S : Nat → Prop) (w : World) (o : ((Own.flat intF 1 intFlen 3)).own S w v l) (h0 : 0 ≤ k) (h1 : k + 1 * l.length ≤ 4611686018427387904) :
    Calls Try.prog 57 #[v, .int .i64 k] w fun e w' => e = .returned (.int .i64 (k + 1 * l.length)) ∧ ((Own.flat intF 1 intFlen 3)).own S w' v (markL intMk 1 (k) (l).length) ∧ Chg S w w' :=
  (l_markIntS l v k 0 w o.1 h0 h1).mono fun _ _ ⟨he, ho, hg⟩ => ⟨he, ⟨ho, o.2⟩, Chg.ofGrown hg o.2⟩

set_option maxRecDepth 100000 in
set_option maxHeartbeats 8000000 in
theorem l_FnExactTraceInterfaces (a0 : Trc) (v0h0 : Value) (v0h1 : Value) (v0h2 : Value) (w : World) (r0h0 : RdS Step.rep w v0h0 a0.steps) (r0h1 : RdS Part.rep w v0h1 a0.pkt.path.parts) (r0h2 : RdS Rep.byte w v0h2 a0.pkt.pay) (_ : a0.ok) :
    Calls Try.prog 11 #[.agg #[.int .i64 a0.code, v0h0, .int .i64 a0.pkt.kind, .int .i64 a0.pkt.src, .int .i64 a0.pkt.dst, v0h1, .int .i64 a0.pkt.pi, .int .i64 a0.pkt.hi, .int .i64 a0.pkt.beta, .int .i64 a0.pkt.rid, .int .i64 a0.pkt.seq, v0h2]] w fun e w' => e = .returned (.bool true) ∧ Ext w w' := by
  go_enter Try.func11, Try.ntmps11
  have e0 : Ext w (w.alloc (.cells #[.int .i64 a0.code, v0h0, .int .i64 a0.pkt.kind, .int .i64 a0.pkt.src, .int .i64 a0.pkt.dst, v0h1, .int .i64 a0.pkt.pi, .int .i64 a0.pkt.hi, .int .i64 a0.pkt.beta, .int .i64 a0.pkt.rid, .int .i64 a0.pkt.seq, v0h2] 82)) := (Ext.refl _).alloc _
  have hB0 := blk_new w (.cells #[.int .i64 a0.code, v0h0, .int .i64 a0.pkt.kind, .int .i64 a0.pkt.src, .int .i64 a0.pkt.dst, v0h1, .int .i64 a0.pkt.pi, .int .i64 a0.pkt.hi, .int .i64 a0.pkt.beta, .int .i64 a0.pkt.rid, .int .i64 a0.pkt.seq, v0h2] 82)
  have HB0 := Lib.hid hB0; clear hB0
  go_wp2_with fail
  refine (l_szTrace a0 v0h0 v0h1 v0h2 (1048576) _ (r0h0.ext e0) (r0h1.ext e0) (r0h2.ext e0) (by omega) (by omega)).mono ?_
  rintro e w2 ⟨rfl, h2⟩
  rcases Int.lt_or_le (1048576 - (a0.size : Int)) 0 with z0 | z0
  · rw [show szL (1048576) a0.size = -1 from if_pos z0]
    go_wp2_with fail
    go_ret
    exact ⟨rfl, (e0.trans h2)⟩
  rw [show szL (1048576) a0.size = 1048576 - (a0.size : Int) from if_neg (by omega)]
  have y0 : a0.size ≤ 1048576 := by omega
  have ym0 := Trc.cnt_le y0
  obtain ⟨ym0a, ym0b⟩ := ym0
  have yr0 : (usedIfs a0.steps).length ≤ 2097152 := by have h1 := usedIfs_len a0.steps; have h := y0; unfold Trc.size at h; omega
  have hc2 := blk12 (Ext.block h2 HB0.out)
  go_wp2_with fail
  refine (l_toTrace a0 v0h0 v0h1 v0h2 _ (r0h0.ext (e0.trans h2)) (r0h1.ext (e0.trans h2)) (r0h2.ext (e0.trans h2)) y0).mono ?_
  rintro e w3 ⟨s0u0, s0u1, s0u2, rfl, s0o0, h3⟩
  have hc3 := blk12 (Ext.block (h2.trans h3) HB0.out)
  go_wp2_with fail
  refine (s_TraceInterfaces a0 s0u0 s0u1 s0u2 _ (Trc.own_rd0 s0o0) (Trc.own_rd1 s0o0) (Trc.own_rd2 s0o0) y0).mono ?_
  rintro e w4 ⟨spu0, rfl, spo0, h4⟩
  have spo0q := Own.ofF (hf := intFlen) spo0
  obtain ⟨spp0, spc0, rfl, spl0⟩ := (((Own.flat intF 1 intFlen 3)).rd spo0q).shape; clear spl0
  have hc4 := blk12 (Ext.block ((h2.trans h3).trans h4) HB0.out)
  go_wp2_with fail
  refine (l_toTrace a0 v0h0 v0h1 v0h2 _ (r0h0.ext (((e0.trans h2).trans h3).trans h4)) (r0h1.ext (((e0.trans h2).trans h3).trans h4)) (r0h2.ext (((e0.trans h2).trans h3).trans h4)) y0).mono ?_
  rintro e w5 ⟨x0u0, x0u1, x0u2, rfl, x0o0, h5⟩
  obtain ⟨x0sp0, x0sc0, rfl, x0sl0⟩ := (Trc.own_rd0 x0o0).shape; clear x0sl0
  obtain ⟨x0sp1, x0sc1, rfl, x0sl1⟩ := (Trc.own_rd1 x0o0).shape; clear x0sl1
  obtain ⟨x0sp2, x0sc2, rfl, x0sl2⟩ := (Trc.own_rd2 x0o0).shape; clear x0sl2
  have e5 : Ext w5 (w5.alloc (.cells #[.int .i64 a0.code, (.slice x0sp0 (a0.steps).length x0sc0), .int .i64 a0.pkt.kind, .int .i64 a0.pkt.src, .int .i64 a0.pkt.dst, (.slice x0sp1 (a0.pkt.path.parts).length x0sc1), .int .i64 a0.pkt.pi, .int .i64 a0.pkt.hi, .int .i64 a0.pkt.beta, .int .i64 a0.pkt.rid, .int .i64 a0.pkt.seq, (.slice x0sp2 (a0.pkt.pay).length x0sc2)] 88)) := (Ext.refl _).alloc _
  have hB5 := blk_new w5 (.cells #[.int .i64 a0.code, (.slice x0sp0 (a0.steps).length x0sc0), .int .i64 a0.pkt.kind, .int .i64 a0.pkt.src, .int .i64 a0.pkt.dst, (.slice x0sp1 (a0.pkt.path.parts).length x0sc1), .int .i64 a0.pkt.pi, .int .i64 a0.pkt.hi, .int .i64 a0.pkt.beta, .int .i64 a0.pkt.rid, .int .i64 a0.pkt.seq, (.slice x0sp2 (a0.pkt.pay).length x0sc2)] 88)
  have HB5 := Lib.hid hB5; clear hB5
  have hc5 := blk12 (Ext.block ((((h2.trans h3).trans h4).trans h5).trans e5) HB0.out)
  go_wp2_with fail
  refine (i_TraceInterfaces a0 (.slice x0sp0 (a0.steps).length x0sc0) (.slice x0sp1 (a0.pkt.path.parts).length x0sc1) (.slice x0sp2 (a0.pkt.pay).length x0sc2) _ ((Trc.own_rd0 x0o0).ext e5) ((Trc.own_rd1 x0o0).ext e5) ((Trc.own_rd2 x0o0).ext e5) y0).mono ?_
  rintro e w7 ⟨gpu0, rfl, gpo0, h7⟩
  have gpo0q := Own.ofF (hf := intFlen) gpo0
  obtain ⟨gpp0, gpc0, rfl, gpl0⟩ := (((Own.flat intF 1 intFlen 3)).rd gpo0q).shape; clear gpl0
  have hc7 := blk12 (Ext.block (((((h2.trans h3).trans h4).trans h5).trans e5).trans h7) HB0.out)
  have hc8 := blk12 (Ext.block h7 HB5.out)
  go_wp2_with fail
  refine (l_eqIntS (usedIfs a0.steps) (usedIfs a0.steps) (.slice gpp0 ((usedIfs a0.steps)).length gpc0) (.slice spp0 ((usedIfs a0.steps)).length spc0) _ (((Own.flat intF 1 intFlen 3)).rd gpo0q) ((((Own.flat intF 1 intFlen 3)).rd spo0q).ext ((h5.trans e5).trans h7))).mono ?_
  rintro e w8 ⟨rfl, h8⟩
  rw [show decide ((usedIfs a0.steps) = (usedIfs a0.steps)) = true from decide_eq_true rfl]
  have hc9 := blk12 (Ext.block ((((((h2.trans h3).trans h4).trans h5).trans e5).trans h7).trans h8) HB0.out)
  have hc10 := blk12 (Ext.block (h7.trans h8) HB5.out)
  go_wp2_with fail
  refine planStep (.blk [0, 1] (.one 2 (.one 3 (.blk [4] .done)))) [] (by kernel_rfl) (by kernel_rfl) ?_
  refine blkStep (fun K HK => ?_)
  simp only [pick, List.filterMap_cons, List.filterMap_nil, List.getElem?_toArray, List.getElem?_cons_zero, List.getElem?_cons_succ]
  go_wp2_with fail
  refine HK.out _ _ ?_
  clear HK K
  refine oneStep (fun K HK => ?_)
  simp only [pick, List.filterMap_cons, List.filterMap_nil, List.getElem?_toArray, List.getElem?_cons_zero, List.getElem?_cons_succ]
  go_wp2_with fail
  refine (l_toTrace a0 v0h0 v0h1 v0h2 _ (r0h0.ext (((((((e0.trans h2).trans h3).trans h4).trans h5).trans e5).trans h7).trans h8).drew) (r0h1.ext (((((((e0.trans h2).trans h3).trans h4).trans h5).trans e5).trans h7).trans h8).drew) (r0h2.ext (((((((e0.trans h2).trans h3).trans h4).trans h5).trans e5).trans h7).trans h8).drew) y0).mono ?_
  rintro e w9 ⟨t0u0, t0u1, t0u2, rfl, t0o0, h9⟩
  go_wp2_with fail
  refine HK.out _ _ (h9) ?_
  clear HK K
  refine oneStep (fun K HK => ?_)
  simp only [pick, List.filterMap_cons, List.filterMap_nil, List.getElem?_toArray, List.getElem?_cons_zero, List.getElem?_cons_succ]
  go_wp2_with fail
  refine (l_eqTrace a0 a0 (.slice x0sp0 (a0.steps).length x0sc0) (.slice x0sp1 (a0.pkt.path.parts).length x0sc1) (.slice x0sp2 (a0.pkt.pay).length x0sc2) t0u0 t0u1 t0u2 _ ((Trc.own_rd0 x0o0).ext (((e5.trans h7).trans h8).trans ((Ext.refl _).drew.trans h9))) ((Trc.own_rd1 x0o0).ext (((e5.trans h7).trans h8).trans ((Ext.refl _).drew.trans h9))) ((Trc.own_rd2 x0o0).ext (((e5.trans h7).trans h8).trans ((Ext.refl _).drew.trans h9))) (Trc.own_rd0 t0o0) (Trc.own_rd1 t0o0) (Trc.own_rd2 t0o0)).mono ?_
  rintro e w10 ⟨rfl, h10⟩
  rw [show decide (a0 = a0) = true from decide_eq_true rfl]
  go_wp2_with fail
  refine HK.out _ _ (h10) ?_
  clear HK K
  refine blkStep (fun K HK => ?_)
  simp only [pick, List.filterMap_cons, List.filterMap_nil, List.getElem?_toArray, List.getElem?_cons_zero, List.getElem?_cons_succ]
  go_wp2_with fail
  refine HK.out _ _ ?_
  clear HK K
  refine doneStep (by kernel_rfl) ?_
  have hc11 := blk12 (Ext.block ((((((((h2.trans h3).trans h4).trans h5).trans e5).trans h7).trans h8).trans ((Ext.refl _).drew.trans h9)).trans h10) HB0.out)
  have hc12 := blk12 (Ext.block (((h7.trans h8).trans ((Ext.refl _).drew.trans h9)).trans h10) HB5.out)
  go_wp2_with fail
  refine (l_markTrace (a0) (.slice x0sp0 (a0.steps).length x0sc0) (.slice x0sp1 (a0.pkt.path.parts).length x0sc1) (.slice x0sp2 (a0.pkt.pay).length x0sc2) (1) _ _ (Trc.own_ext x0o0 ((((e5.trans h7).trans h8).trans ((Ext.refl _).drew.trans h9)).trans h10)) (by omega) (by omega)).mono ?_
  rintro e w11 ⟨rfl, mx0o, mx0c⟩
  have HB0m1 := Lib.hid (Chg.blk mx0c (Ext.block ((((((((h2.trans h3).trans h4).trans h5).trans e5).trans h7).trans h8).trans ((Ext.refl _).drew.trans h9)).trans h10) HB0.out) (.inl (Nat.lt_of_lt_of_le (blk_lt HB0.out) ((h2.trans h3).trans h4).size)))
  have HB5m1 := Lib.hid (Chg.blk mx0c (Ext.block (((h7.trans h8).trans ((Ext.refl _).drew.trans h9)).trans h10) HB5.out) (.inr (Ext.refl _).size))
  have s0o0_m1 := Trc.own_kept (Trc.own_ext s0o0 ((((((h4.trans h5).trans e5).trans h7).trans h8).trans ((Ext.refl _).drew.trans h9)).trans h10)) mx0c (rng_apart (.inl h4.size))
  have spo0q_m1 := Own.kept _ (Own.ext spo0q (((((h5.trans e5).trans h7).trans h8).trans ((Ext.refl _).drew.trans h9)).trans h10)) mx0c (rng_apart (.inl (Ext.refl _).size))
  have gpo0q_m1 := Own.kept _ (Own.ext gpo0q ((h8.trans ((Ext.refl _).drew.trans h9)).trans h10)) mx0c (rng_apart (.inr e5.size))
  have t0o0_m1 := Trc.own_kept (Trc.own_ext t0o0 h10) mx0c (rng_apart (.inr ((e5.trans h7).trans h8).size))
  have X1 := Ext.chg (((((((((e0.trans h2).trans h3).trans h4).trans h5).trans e5).trans h7).trans h8).trans ((Ext.refl _).drew.trans h9)).trans h10) mx0c (fun i hi => Nat.le_trans (((e0.trans h2).trans h3).trans h4).size hi.1)
  have hqp : ¬ (1 + (a0).cnt) < 0 := by omega
  have hc13 := blk12 HB0m1.out
  have hc14 := blk12 HB5m1.out
  go_wp2_with fail
  refine (l_eqIntS (usedIfs a0.steps) (usedIfs a0.steps) (.slice gpp0 ((usedIfs a0.steps)).length gpc0) (.slice spp0 ((usedIfs a0.steps)).length spc0) _ (((Own.flat intF 1 intFlen 3)).rd gpo0q_m1) (((Own.flat intF 1 intFlen 3)).rd spo0q_m1)).mono ?_
  rintro e w12 ⟨rfl, h12⟩
  rw [show decide ((usedIfs a0.steps) = (usedIfs a0.steps)) = true from decide_eq_true rfl]
  have hc15 := blk12 (Ext.block h12 HB0m1.out)
  have hc16 := blk12 (Ext.block h12 HB5m1.out)
  go_wp2_with fail
  refine (lmF_IntS ((usedIfs a0.steps)) (.slice gpp0 ((usedIfs a0.steps)).length gpc0) (1) _ _ (Own.ext gpo0q_m1 h12) (by omega) (by omega)).mono ?_
  rintro e w13 ⟨rfl, mgo, mgc⟩
  have HB0m2 := Lib.hid (Chg.blk mgc (Ext.block h12 HB0m1.out) (.inl (Nat.lt_of_lt_of_le (blk_lt HB0.out) ((((h2.trans h3).trans h4).trans h5).trans e5).size)))
  have HB5m2 := Lib.hid (Chg.blk mgc (Ext.block h12 HB5m1.out) (.inl (Nat.lt_of_lt_of_le (blk_lt HB5.out) (Ext.refl _).size)))
  have s0o0_m2 := Trc.own_kept (Trc.own_ext s0o0_m1 h12) mgc (rng_apart (.inl ((h4.trans h5).trans e5).size))
  have spo0q_m2 := Own.kept _ (Own.ext spo0q_m1 h12) mgc (rng_apart (.inl (h5.trans e5).size))
  have mx0o_m2 := Trc.own_kept (Trc.own_ext mx0o h12) mgc (rng_apart (.inl e5.size))
  have t0o0_m2 := Trc.own_kept (Trc.own_ext t0o0_m1 h12) mgc (rng_apart (.inr h8.size))
  have X2 := Ext.chg (X1.trans h12) mgc (fun i hi => Nat.le_trans (((((e0.trans h2).trans h3).trans h4).trans h5).trans e5).size hi.1)
  have hc17 := blk12 HB0m2.out
  have hc18 := blk12 HB5m2.out
  go_wp2_with fail
  refine (l_heldIntS _ (.slice gpp0 ((usedIfs a0.steps)).length gpc0) (1) _ (((Own.flat intF 1 intFlen 3)).rd mgo) (by omega) (by omega)).mono ?_
  rintro e w14 ⟨rfl, h14⟩
  have hmp : ¬ (1 + 1 * (((usedIfs a0.steps)).length : Int)) < 0 := by omega
  have hc19 := blk12 (Ext.block h14 HB0m2.out)
  have hc20 := blk12 (Ext.block h14 HB5m2.out)
  go_wp2_with fail
  refine (l_toTrace a0 v0h0 v0h1 v0h2 _ (r0h0.ext (X2.trans h14)) (r0h1.ext (X2.trans h14)) (r0h2.ext (X2.trans h14)) y0).mono ?_
  rintro e w15 ⟨k0u0, k0u1, k0u2, rfl, k0o0, h15⟩
  have hc21 := blk12 (Ext.block (h14.trans h15) HB0m2.out)
  have hc22 := blk12 (Ext.block (h14.trans h15) HB5m2.out)
  go_wp2_with fail
  refine (i_TraceInterfaces a0 k0u0 k0u1 k0u2 _ (Trc.own_rd0 k0o0) (Trc.own_rd1 k0o0) (Trc.own_rd2 k0o0) y0).mono ?_
  rintro e w16 ⟨hpu0, rfl, hpo0, h16⟩
  have hpo0q := Own.ofF (hf := intFlen) hpo0
  obtain ⟨hpp0, hpc0, rfl, hpl0⟩ := (((Own.flat intF 1 intFlen 3)).rd hpo0q).shape; clear hpl0
  have hc23 := blk12 (Ext.block ((h14.trans h15).trans h16) HB0m2.out)
  have hc24 := blk12 (Ext.block ((h14.trans h15).trans h16) HB5m2.out)
  go_wp2_with fail
  refine (l_eqIntS (usedIfs a0.steps) (usedIfs a0.steps) (.slice hpp0 ((usedIfs a0.steps)).length hpc0) (.slice spp0 ((usedIfs a0.steps)).length spc0) _ (((Own.flat intF 1 intFlen 3)).rd hpo0q) ((((Own.flat intF 1 intFlen 3)).rd spo0q_m2).ext ((h14.trans h15).trans h16))).mono ?_
  rintro e w17 ⟨rfl, h17⟩
  rw [show decide ((usedIfs a0.steps) = (usedIfs a0.steps)) = true from decide_eq_true rfl]
  have hc25 := blk12 (Ext.block (((h14.trans h15).trans h16).trans h17) HB0m2.out)
  have hc26 := blk12 (Ext.block (((h14.trans h15).trans h16).trans h17) HB5m2.out)
  go_wp2_with fail
  refine (l_heldIntS _ (.slice gpp0 ((usedIfs a0.steps)).length gpc0) (1) _ ((((Own.flat intF 1 intFlen 3)).rd mgo).ext (((h14.trans h15).trans h16).trans h17)) (by omega) (by omega)).mono ?_
  rintro e w18 ⟨rfl, h18⟩
  go_wp2_with fail
  go_ret
  exact ⟨rfl, (X2.trans ((((h14.trans h15).trans h16).trans h17).trans h18))⟩

end Go.Proofs.Ytpeipodehflmaaa
