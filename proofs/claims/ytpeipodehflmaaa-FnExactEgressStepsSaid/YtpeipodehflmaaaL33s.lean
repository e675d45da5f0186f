/- The walk of the exact law over the steps that leave an AS. No condition. -/
import Derived.Test.YtpeipodehflmaaaW33e
import Derived.Test.YtpeipodehflmaaaTyPartM
namespace Go.Proofs.Ytpeipodehflmaaa
open Go.ChangeShapes Go.WideShapes Go.ChangeAt Go.RowKit Go.Deep

theorem lmF_StepS (l : List Step) (v : Value) (k : Int) (S : Nat → Prop) (w : World) (o : ((Own.flat Step.f 3 Step.flen 132)).own S w v l) (h0 : 0 ≤ k) (h1 : k + 3 * l.length ≤ 4611686018427387904) :
    Calls Try.prog 32 #[v, .int .i64 k] w fun e w' => e = .returned (.int .i64 (k + 3 * l.length)) ∧ ((Own.flat Step.f 3 Step.flen 132)).own S w' v (markL Step.mk' 3 (k) (l).length) ∧ Chg S w w' :=
  (l_markStepS l v k 0 w o.1 h0 h1).mono fun _ _ ⟨he, ho, hg⟩ => ⟨he, ⟨ho, o.2⟩, Chg.ofGrown hg o.2⟩

set_option maxRecDepth 100000 in
set_option maxHeartbeats 8000000 in
theorem l_FnExactEgressSteps (a0 : Pth) (v0h0 : Value) (w : World) (r0h0 : RdS Part.rep w v0h0 a0.parts) (_ : a0.ok) :
    Calls Try.prog 5 #[.agg #[v0h0]] w fun e w' => e = .returned (.bool true) ∧ Ext w w' := by
  go_enter Try.func5, Try.ntmps5
  have e0 : Ext w (w.alloc (.cells #[v0h0] 40)) := (Ext.refl _).alloc _
  have hB0 := blk_new w (.cells #[v0h0] 40)
  have HB0 := Lib.hid hB0; clear hB0
  go_wp2_with fail
  refine (l_szPath a0 v0h0 (1048576) _ (r0h0.ext e0) (by omega) (by omega)).mono ?_
  rintro e w2 ⟨rfl, h2⟩
  rcases Int.lt_or_le (1048576 - (a0.size : Int)) 0 with z0 | z0
  · rw [show szL (1048576) a0.size = -1 from if_pos z0]
    go_wp2_with fail
    go_ret
    exact ⟨rfl, (e0.trans h2)⟩
  rw [show szL (1048576) a0.size = 1048576 - (a0.size : Int) from if_neg (by omega)]
  have y0 : a0.size ≤ 1048576 := by omega
  have ym0 : 0 ≤ markN a0.parts ∧ markN a0.parts ≤ 5242880 := by have h := y0; unfold Pth.size at h; unfold markN; omega
  obtain ⟨ym0a, ym0b⟩ := ym0
  have yr0 : (egSteps (pathSteps a0.parts)).length ≤ 1048576 := by have h1 := egSteps_len (pathSteps a0.parts); have h2 := pathSteps_len a0.parts; have h := y0; unfold Pth.size at h; omega
  have hc2 := blk1 (Ext.block h2 HB0.out)
  go_wp2_with fail
  refine (l_toPath a0 v0h0 _ (r0h0.ext (e0.trans h2)) y0).mono ?_
  rintro e w3 ⟨s0u0, rfl, s0o0, h3⟩
  have hc3 := blk1 (Ext.block (h2.trans h3) HB0.out)
  go_wp2_with fail
  refine (s_EgressSteps a0 s0u0 _ ((Part.own).rd s0o0) y0).mono ?_
  rintro e w4 ⟨spu0, rfl, spo0, h4⟩
  have spo0q := Own.ofF (hf := Step.flen) spo0
  obtain ⟨spp0, spc0, rfl, spl0⟩ := (((Own.flat Step.f 3 Step.flen 132)).rd spo0q).shape; clear spl0
  have hc4 := blk1 (Ext.block ((h2.trans h3).trans h4) HB0.out)
  go_wp2_with fail
  refine (l_toPath a0 v0h0 _ (r0h0.ext (((e0.trans h2).trans h3).trans h4)) y0).mono ?_
  rintro e w5 ⟨x0u0, rfl, x0o0, h5⟩
  obtain ⟨x0sp0, x0sc0, rfl, x0sl0⟩ := ((Part.own).rd x0o0).shape; clear x0sl0
  have e5 : Ext w5 (w5.alloc (.cells #[(.slice x0sp0 (a0.parts).length x0sc0)] 47)) := (Ext.refl _).alloc _
  have hB5 := blk_new w5 (.cells #[(.slice x0sp0 (a0.parts).length x0sc0)] 47)
  have HB5 := Lib.hid hB5; clear hB5
  have hc5 := blk1 (Ext.block ((((h2.trans h3).trans h4).trans h5).trans e5) HB0.out)
  go_wp2_with fail
  refine (i_EgressSteps a0 (.slice x0sp0 (a0.parts).length x0sc0) _ ((Part.own).rd x0o0 |>.ext e5) y0).mono ?_
  rintro e w7 ⟨gpu0, rfl, gpo0, h7⟩
  have gpo0q := Own.ofF (hf := Step.flen) gpo0
  obtain ⟨gpp0, gpc0, rfl, gpl0⟩ := (((Own.flat Step.f 3 Step.flen 132)).rd gpo0q).shape; clear gpl0
  have hc7 := blk1 (Ext.block (((((h2.trans h3).trans h4).trans h5).trans e5).trans h7) HB0.out)
  have hc8 := blk1 (Ext.block h7 HB5.out)
  go_wp2_with fail
  refine (l_eqStepS (egSteps (pathSteps a0.parts)) (egSteps (pathSteps a0.parts)) (.slice gpp0 ((egSteps (pathSteps a0.parts))).length gpc0) (.slice spp0 ((egSteps (pathSteps a0.parts))).length spc0) _ (((Own.flat Step.f 3 Step.flen 132)).rd gpo0q) (((Own.flat Step.f 3 Step.flen 132)).rd spo0q |>.ext ((h5.trans e5).trans h7))).mono ?_
  rintro e w8 ⟨rfl, h8⟩
  rw [show decide ((egSteps (pathSteps a0.parts)) = (egSteps (pathSteps a0.parts))) = true from decide_eq_true rfl]
  have hc9 := blk1 (Ext.block ((((((h2.trans h3).trans h4).trans h5).trans e5).trans h7).trans h8) HB0.out)
  have hc10 := blk1 (Ext.block (h7.trans h8) HB5.out)
  go_wp2_with fail
  refine planStep (.blk [0, 1] (.one 2 (.one 3 (.blk [4] .done)))) [] (by kernel_rfl) (by kernel_rfl) ?_
  refine blkStep (fun K HK => ?_)
  simp only [pick, List.filterMap_cons, List.filterMap_nil, List.getElem?_toArray, List.getElem?_cons_zero, List.getElem?_cons_succ]
  go_wp2_with fail
  refine HK.out _ _ ?_
  clear HK K
  refine oneStep (fun K HK => ?_)
  simp only [pick, List.filterMap_cons, List.filterMap_nil, List.getElem?_toArray, List.getElem?_cons_zero, List.getElem?_cons_succ]
  go_wp2_with fail
  refine (l_toPath a0 v0h0 _ (r0h0.ext (((((((e0.trans h2).trans h3).trans h4).trans h5).trans e5).trans h7).trans h8).drew) y0).mono ?_
  rintro e w9 ⟨t0u0, rfl, t0o0, h9⟩
  go_wp2_with fail
  refine HK.out _ _ (h9) ?_
  clear HK K
  refine oneStep (fun K HK => ?_)
  simp only [pick, List.filterMap_cons, List.filterMap_nil, List.getElem?_toArray, List.getElem?_cons_zero, List.getElem?_cons_succ]
  go_wp2_with fail
  refine (l_eqPath a0 a0 (.slice x0sp0 (a0.parts).length x0sc0) t0u0 _ ((Part.own).rd x0o0 |>.ext (((e5.trans h7).trans h8).trans ((Ext.refl _).drew.trans h9))) ((Part.own).rd t0o0)).mono ?_
  rintro e w10 ⟨rfl, h10⟩
  rw [show decide (a0 = a0) = true from decide_eq_true rfl]
  go_wp2_with fail
  refine HK.out _ _ (h10) ?_
  clear HK K
  refine blkStep (fun K HK => ?_)
  simp only [pick, List.filterMap_cons, List.filterMap_nil, List.getElem?_toArray, List.getElem?_cons_zero, List.getElem?_cons_succ]
  go_wp2_with fail
  refine HK.out _ _ ?_
  clear HK K
  refine doneStep (by kernel_rfl) ?_
  have hc11 := blk1 (Ext.block ((((((((h2.trans h3).trans h4).trans h5).trans e5).trans h7).trans h8).trans ((Ext.refl _).drew.trans h9)).trans h10) HB0.out)
  have hc12 := blk1 (Ext.block (((h7.trans h8).trans ((Ext.refl _).drew.trans h9)).trans h10) HB5.out)
  go_wp2_with fail
  refine (l_markPath (a0.parts) (.slice x0sp0 (a0.parts).length x0sc0) (1) _ _ (Own.ext x0o0 ((((e5.trans h7).trans h8).trans ((Ext.refl _).drew.trans h9)).trans h10)) (by omega) (by omega)).mono ?_
  rintro e w11 ⟨rfl, mx0o, mx0c⟩
  have HB0m1 := Lib.hid (Chg.blk mx0c (Ext.block ((((((((h2.trans h3).trans h4).trans h5).trans e5).trans h7).trans h8).trans ((Ext.refl _).drew.trans h9)).trans h10) HB0.out) (.inl (Nat.lt_of_lt_of_le (blk_lt HB0.out) ((h2.trans h3).trans h4).size)))
  have HB5m1 := Lib.hid (Chg.blk mx0c (Ext.block (((h7.trans h8).trans ((Ext.refl _).drew.trans h9)).trans h10) HB5.out) (.inr (Ext.refl _).size))
  have s0o0_m1 := Own.kept _ (Own.ext s0o0 ((((((h4.trans h5).trans e5).trans h7).trans h8).trans ((Ext.refl _).drew.trans h9)).trans h10)) mx0c (rng_apart (.inl h4.size))
  have spo0q_m1 := Own.kept _ (Own.ext spo0q (((((h5.trans e5).trans h7).trans h8).trans ((Ext.refl _).drew.trans h9)).trans h10)) mx0c (rng_apart (.inl (Ext.refl _).size))
  have gpo0q_m1 := Own.kept _ (Own.ext gpo0q ((h8.trans ((Ext.refl _).drew.trans h9)).trans h10)) mx0c (rng_apart (.inr e5.size))
  have t0o0_m1 := Own.kept _ (Own.ext t0o0 h10) mx0c (rng_apart (.inr ((e5.trans h7).trans h8).size))
  have X1 := Ext.chg (((((((((e0.trans h2).trans h3).trans h4).trans h5).trans e5).trans h7).trans h8).trans ((Ext.refl _).drew.trans h9)).trans h10) mx0c (fun i hi => Nat.le_trans (((e0.trans h2).trans h3).trans h4).size hi.1)
  have hqp : ¬ (1 + markN a0.parts) < 0 := by omega
  have hc13 := blk1 HB0m1.out
  have hc14 := blk1 HB5m1.out
  go_wp2_with fail
  refine (l_eqStepS (egSteps (pathSteps a0.parts)) (egSteps (pathSteps a0.parts)) (.slice gpp0 ((egSteps (pathSteps a0.parts))).length gpc0) (.slice spp0 ((egSteps (pathSteps a0.parts))).length spc0) _ (((Own.flat Step.f 3 Step.flen 132)).rd gpo0q_m1) (((Own.flat Step.f 3 Step.flen 132)).rd spo0q_m1)).mono ?_
  rintro e w12 ⟨rfl, h12⟩
  rw [show decide ((egSteps (pathSteps a0.parts)) = (egSteps (pathSteps a0.parts))) = true from decide_eq_true rfl]
  have hc15 := blk1 (Ext.block h12 HB0m1.out)
  have hc16 := blk1 (Ext.block h12 HB5m1.out)
  go_wp2_with fail
  refine (lmF_StepS ((egSteps (pathSteps a0.parts))) (.slice gpp0 ((egSteps (pathSteps a0.parts))).length gpc0) (1) _ _ (Own.ext gpo0q_m1 h12) (by omega) (by omega)).mono ?_
  rintro e w13 ⟨rfl, mgo, mgc⟩
  have HB0m2 := Lib.hid (Chg.blk mgc (Ext.block h12 HB0m1.out) (.inl (Nat.lt_of_lt_of_le (blk_lt HB0.out) ((((h2.trans h3).trans h4).trans h5).trans e5).size)))
  have HB5m2 := Lib.hid (Chg.blk mgc (Ext.block h12 HB5m1.out) (.inl (Nat.lt_of_lt_of_le (blk_lt HB5.out) (Ext.refl _).size)))
  have s0o0_m2 := Own.kept _ (Own.ext s0o0_m1 h12) mgc (rng_apart (.inl ((h4.trans h5).trans e5).size))
  have spo0q_m2 := Own.kept _ (Own.ext spo0q_m1 h12) mgc (rng_apart (.inl (h5.trans e5).size))
  have mx0o_m2 := Own.kept _ (Own.ext mx0o h12) mgc (rng_apart (.inl e5.size))
  have t0o0_m2 := Own.kept _ (Own.ext t0o0_m1 h12) mgc (rng_apart (.inr h8.size))
  have X2 := Ext.chg (X1.trans h12) mgc (fun i hi => Nat.le_trans (((((e0.trans h2).trans h3).trans h4).trans h5).trans e5).size hi.1)
  have hc17 := blk1 HB0m2.out
  have hc18 := blk1 HB5m2.out
  go_wp2_with fail
  refine (l_heldStepS _ (.slice gpp0 ((egSteps (pathSteps a0.parts))).length gpc0) (1) _ (((Own.flat Step.f 3 Step.flen 132)).rd mgo) (by omega) (by omega)).mono ?_
  rintro e w14 ⟨rfl, h14⟩
  have hmp : ¬ (1 + 3 * (((egSteps (pathSteps a0.parts))).length : Int)) < 0 := by omega
  have hc19 := blk1 (Ext.block h14 HB0m2.out)
  have hc20 := blk1 (Ext.block h14 HB5m2.out)
  go_wp2_with fail
  refine (l_toPath a0 v0h0 _ (r0h0.ext (X2.trans h14)) y0).mono ?_
  rintro e w15 ⟨k0u0, rfl, k0o0, h15⟩
  have hc21 := blk1 (Ext.block (h14.trans h15) HB0m2.out)
  have hc22 := blk1 (Ext.block (h14.trans h15) HB5m2.out)
  go_wp2_with fail
  refine (i_EgressSteps a0 k0u0 _ ((Part.own).rd k0o0) y0).mono ?_
  rintro e w16 ⟨hpu0, rfl, hpo0, h16⟩
  have hpo0q := Own.ofF (hf := Step.flen) hpo0
  obtain ⟨hpp0, hpc0, rfl, hpl0⟩ := (((Own.flat Step.f 3 Step.flen 132)).rd hpo0q).shape; clear hpl0
  have hc23 := blk1 (Ext.block ((h14.trans h15).trans h16) HB0m2.out)
  have hc24 := blk1 (Ext.block ((h14.trans h15).trans h16) HB5m2.out)
  go_wp2_with fail
  refine (l_eqStepS (egSteps (pathSteps a0.parts)) (egSteps (pathSteps a0.parts)) (.slice hpp0 ((egSteps (pathSteps a0.parts))).length hpc0) (.slice spp0 ((egSteps (pathSteps a0.parts))).length spc0) _ (((Own.flat Step.f 3 Step.flen 132)).rd hpo0q) (((Own.flat Step.f 3 Step.flen 132)).rd spo0q_m2 |>.ext ((h14.trans h15).trans h16))).mono ?_
  rintro e w17 ⟨rfl, h17⟩
  rw [show decide ((egSteps (pathSteps a0.parts)) = (egSteps (pathSteps a0.parts))) = true from decide_eq_true rfl]
  have hc25 := blk1 (Ext.block (((h14.trans h15).trans h16).trans h17) HB0m2.out)
  have hc26 := blk1 (Ext.block (((h14.trans h15).trans h16).trans h17) HB5m2.out)
  go_wp2_with fail
  refine (l_heldStepS _ (.slice gpp0 ((egSteps (pathSteps a0.parts))).length gpc0) (1) _ (((Own.flat Step.f 3 Step.flen 132)).rd mgo |>.ext (((h14.trans h15).trans h16).trans h17)) (by omega) (by omega)).mono ?_
  rintro e w18 ⟨rfl, h18⟩
  go_wp2_with fail
  go_ret
  exact ⟨rfl, (X2.trans ((((h14.trans h15).trans h16).trans h17).trans h18))⟩

end Go.Proofs.Ytpeipodehflmaaa
