/- The walk of the exact law over putting unrevoked paths first. No condition. -/
import Derived.Test.YtpeipodehflmaaaW31q
namespace Go.Proofs.Ytpeipodehflmaaa
open Go.ChangeShapes Go.WideShapes Go.ChangeAt Go.RowKit Go.Deep

theorem lmF_RevocationS (l : List Revc) (v : Value) (k : Int) (S : Nat → Prop) (w : World) (o : ((Own.flat Revc.f 3 Revc.flen 49)).own S w v l) (h0 : 0 ≤ k) (h1 : k + 3 * l.length ≤ 4611686018427387904) :
    Calls Try.prog 68 #[v, .int .i64 k] w fun e w' => e = .returned (.int .i64 (k + 3 * l.length)) ∧ ((Own.flat Revc.f 3 Revc.flen 49)).own S w' v (markL Revc.mk' 3 (k) (l).length) ∧ Chg S w w' :=
  (l_markRevocationS l v k 0 w o.1 h0 h1).mono fun _ _ ⟨he, ho, hg⟩ => ⟨he, ⟨ho, o.2⟩, Chg.ofGrown hg o.2⟩

set_option maxRecDepth 100000 in
set_option maxHeartbeats 8000000 in
theorem l_FnExactPreferUnrevoked (a0 : List Revc) (v0h0 : Value) (a1 : List Pth) (v1h0 : Value) (a2 : Int) (w : World) (r0h0 : RdS Revc.rep w v0h0 a0) (_ : ∀ x ∈ a0, Revc.ok x) (r1h0 : RdS Pth.rep w v1h0 a1) (_ : ∀ x ∈ a1, Pth.ok x) (_ : I64 a2) :
    Calls Try.prog 13 #[v0h0, v1h0, .int .i64 a2] w fun e w' => e = .returned (.bool true) ∧ Ext w w' := by
  go_enter Try.func13, Try.ntmps13
  go_wp2_with fail
  refine (l_szRevocationS a0 _ (1048576) _ (r0h0.ext (Ext.refl _)) (by omega) (by omega)).mono ?_
  rintro e w1 ⟨rfl, h1⟩
  rcases Int.lt_or_le (1048576 - (a0.length : Int)) 0 with z0 | z0
  · rw [show szL (1048576) a0.length = -1 from if_pos z0]
    go_wp2_with fail
    go_ret
    exact ⟨rfl, h1⟩
  rw [show szL (1048576) a0.length = 1048576 - (a0.length : Int) from if_neg (by omega)]
  go_wp2_with fail
  refine (l_szPathS a1 _ (1048576 - (a0.length : Int)) _ (r1h0.ext h1) (by omega) (by omega)).mono ?_
  rintro e w2 ⟨rfl, h2⟩
  rcases Int.lt_or_le (1048576 - (a0.length : Int) - ((pthsN a1) : Int)) 0 with z1 | z1
  · rw [show szL (1048576 - (a0.length : Int)) (pthsN a1) = -1 from if_pos z1]
    go_wp2_with fail
    go_ret
    exact ⟨rfl, (h1.trans h2)⟩
  rw [show szL (1048576 - (a0.length : Int)) (pthsN a1) = 1048576 - (a0.length : Int) - ((pthsN a1) : Int) from if_neg (by omega)]
  have y0 : a0.length ≤ 1048576 := by omega
  have y1 : (pthsN a1) ≤ 1048576 := by omega
  have ym1 := markPN_le a1
  have ym2 := markPN_nn a1
  have yr0 := markPN_le (prefer a0 a1 a2)
  rw [prefer_size] at yr0
  have yr1 := markPN_nn (prefer a0 a1 a2)
  go_wp2_with fail
  refine (l_toRevocationS a0 v0h0 _ (r0h0.ext (h1.trans h2)) y0).mono ?_
  rintro e w3 ⟨s0u0, rfl, s0o0, h3⟩
  have s0o0q := Own.ofF (hf := Revc.flen) s0o0
  go_wp2_with fail
  refine (l_toPathS a1 v1h0 _ (r1h0.ext ((h1.trans h2).trans h3)) y1).mono ?_
  rintro e w4 ⟨s1u0, rfl, s1o0, h4⟩
  go_wp2_with fail
  refine (s_PreferUnrevoked a0 s0u0 a1 s1u0 a2 _ ((((Own.flat Revc.f 3 Revc.flen 49)).rd s0o0q).ext h4) ((Pth.ownS).rd s1o0) y0 y1).mono ?_
  rintro e w5 ⟨spu0, rfl, spo0, h5⟩
  obtain ⟨spp0, spc0, rfl, spl0⟩ := ((Pth.ownS).rd spo0).shape; clear spl0
  go_wp2_with fail
  refine (l_toRevocationS a0 v0h0 _ (r0h0.ext ((((h1.trans h2).trans h3).trans h4).trans h5)) y0).mono ?_
  rintro e w6 ⟨x0u0, rfl, x0o0, h6⟩
  have x0o0q := Own.ofF (hf := Revc.flen) x0o0
  obtain ⟨x0sp0, x0sc0, rfl, x0sl0⟩ := (((Own.flat Revc.f 3 Revc.flen 49)).rd x0o0q).shape; clear x0sl0
  go_wp2_with fail
  refine (l_toPathS a1 v1h0 _ (r1h0.ext (((((h1.trans h2).trans h3).trans h4).trans h5).trans h6)) y1).mono ?_
  rintro e w7 ⟨x1u0, rfl, x1o0, h7⟩
  obtain ⟨x1sp0, x1sc0, rfl, x1sl0⟩ := ((Pth.ownS).rd x1o0).shape; clear x1sl0
  go_wp2_with fail
  refine (i_PreferUnrevoked a0 (.slice x0sp0 (a0).length x0sc0) a1 (.slice x1sp0 (a1).length x1sc0) a2 _ ((((Own.flat Revc.f 3 Revc.flen 49)).rd x0o0q).ext h7) ((Pth.ownS).rd x1o0) y0 y1).mono ?_
  rintro e w8 ⟨gpu0, rfl, gpo0, h8⟩
  obtain ⟨gpp0, gpc0, rfl, gpl0⟩ := ((Pth.ownS).rd gpo0).shape; clear gpl0
  go_wp2_with fail
  refine (l_eqPathS (prefer a0 a1 a2) (prefer a0 a1 a2) (.slice gpp0 ((prefer a0 a1 a2)).length gpc0) (.slice spp0 ((prefer a0 a1 a2)).length spc0) _ ((Pth.ownS).rd gpo0) (((Pth.ownS).rd spo0).ext ((h6.trans h7).trans h8))).mono ?_
  rintro e w9 ⟨rfl, h9⟩
  rw [show decide ((prefer a0 a1 a2) = (prefer a0 a1 a2)) = true from decide_eq_true rfl]
  go_wp2_with fail
  refine (l_toRevocationS a0 v0h0 _ (r0h0.ext ((((((((h1.trans h2).trans h3).trans h4).trans h5).trans h6).trans h7).trans h8).trans h9)) y0).mono ?_
  rintro e w10 ⟨t0u0, rfl, t0o0, h10⟩
  have t0o0q := Own.ofF (hf := Revc.flen) t0o0
  go_wp2_with fail
  refine (l_eqRevocationS a0 a0 (.slice x0sp0 (a0).length x0sc0) t0u0 _ ((((Own.flat Revc.f 3 Revc.flen 49)).rd x0o0q).ext (((h7.trans h8).trans h9).trans h10)) (((Own.flat Revc.f 3 Revc.flen 49)).rd t0o0q)).mono ?_
  rintro e w11 ⟨rfl, h11⟩
  rw [show decide (a0 = a0) = true from decide_eq_true rfl]
  go_wp2_with fail
  refine (l_toPathS a1 v1h0 _ (r1h0.ext ((((((((((h1.trans h2).trans h3).trans h4).trans h5).trans h6).trans h7).trans h8).trans h9).trans h10).trans h11)) y1).mono ?_
  rintro e w12 ⟨t1u0, rfl, t1o0, h12⟩
  go_wp2_with fail
  refine (l_eqPathS a1 a1 (.slice x1sp0 (a1).length x1sc0) t1u0 _ (((Pth.ownS).rd x1o0).ext ((((h8.trans h9).trans h10).trans h11).trans h12)) ((Pth.ownS).rd t1o0)).mono ?_
  rintro e w13 ⟨rfl, h13⟩
  rw [show decide (a1 = a1) = true from decide_eq_true rfl]
  go_wp2_with fail
  refine (lmF_RevocationS (a0) (.slice x0sp0 (a0).length x0sc0) (1) _ _ (Own.ext x0o0q ((((((h7.trans h8).trans h9).trans h10).trans h11).trans h12).trans h13)) (by omega) (by omega)).mono ?_
  rintro e w14 ⟨rfl, mx0o, mx0c⟩
  have s0o0q_m1 := Own.kept _ (Own.ext s0o0q (((((((((h4.trans h5).trans h6).trans h7).trans h8).trans h9).trans h10).trans h11).trans h12).trans h13)) mx0c (rng_apart (.inl (h4.trans h5).size))
  have s1o0_m1 := Own.kept _ (Own.ext s1o0 ((((((((h5.trans h6).trans h7).trans h8).trans h9).trans h10).trans h11).trans h12).trans h13)) mx0c (rng_apart (.inl h5.size))
  have spo0_m1 := Own.kept _ (Own.ext spo0 (((((((h6.trans h7).trans h8).trans h9).trans h10).trans h11).trans h12).trans h13)) mx0c (rng_apart (.inl (Ext.refl _).size))
  have x1o0_m1 := Own.kept _ (Own.ext x1o0 (((((h8.trans h9).trans h10).trans h11).trans h12).trans h13)) mx0c (rng_apart (.inr (Ext.refl _).size))
  have gpo0_m1 := Own.kept _ (Own.ext gpo0 ((((h9.trans h10).trans h11).trans h12).trans h13)) mx0c (rng_apart (.inr h7.size))
  have t0o0q_m1 := Own.kept _ (Own.ext t0o0q ((h11.trans h12).trans h13)) mx0c (rng_apart (.inr ((h7.trans h8).trans h9).size))
  have t1o0_m1 := Own.kept _ (Own.ext t1o0 h13) mx0c (rng_apart (.inr ((((h7.trans h8).trans h9).trans h10).trans h11).size))
  have X1 := Ext.chg ((((((((((((h1.trans h2).trans h3).trans h4).trans h5).trans h6).trans h7).trans h8).trans h9).trans h10).trans h11).trans h12).trans h13) mx0c (fun i hi => Nat.le_trans ((((h1.trans h2).trans h3).trans h4).trans h5).size hi.1)
  go_wp2_with fail
  refine (l_markPathS (a1) (.slice x1sp0 (a1).length x1sc0) (1 + 3 * ((a0).length : Int)) _ _ x1o0_m1 (by omega) (by omega)).mono ?_
  rintro e w15 ⟨rfl, mx1o, mx1c⟩
  have s0o0q_m2 := Own.kept _ s0o0q_m1 mx1c (rng_apart (.inl ((h4.trans h5).trans h6).size))
  have s1o0_m2 := Own.kept _ s1o0_m1 mx1c (rng_apart (.inl (h5.trans h6).size))
  have spo0_m2 := Own.kept _ spo0_m1 mx1c (rng_apart (.inl h6.size))
  have mx0o_m2 := Own.kept _ mx0o mx1c (rng_apart (.inl (Ext.refl _).size))
  have gpo0_m2 := Own.kept _ gpo0_m1 mx1c (rng_apart (.inr (Ext.refl _).size))
  have t0o0q_m2 := Own.kept _ t0o0q_m1 mx1c (rng_apart (.inr (h8.trans h9).size))
  have t1o0_m2 := Own.kept _ t1o0_m1 mx1c (rng_apart (.inr (((h8.trans h9).trans h10).trans h11).size))
  have X2 := Ext.chg (X1.trans (Ext.refl _)) mx1c (fun i hi => Nat.le_trans (((((h1.trans h2).trans h3).trans h4).trans h5).trans h6).size hi.1)
  have hqp : ¬ (1 + 3 * ((a0).length : Int) + markPN a1) < 0 := by omega
  go_wp2_with fail
  refine (l_eqPathS (prefer a0 a1 a2) (prefer a0 a1 a2) (.slice gpp0 ((prefer a0 a1 a2)).length gpc0) (.slice spp0 ((prefer a0 a1 a2)).length spc0) _ ((Pth.ownS).rd gpo0_m2) ((Pth.ownS).rd spo0_m2)).mono ?_
  rintro e w16 ⟨rfl, h16⟩
  rw [show decide ((prefer a0 a1 a2) = (prefer a0 a1 a2)) = true from decide_eq_true rfl]
  go_wp2_with fail
  refine (l_markPathS ((prefer a0 a1 a2)) (.slice gpp0 ((prefer a0 a1 a2)).length gpc0) (1) _ _ (Own.ext gpo0_m2 h16) (by omega) (by omega)).mono ?_
  rintro e w17 ⟨rfl, mgo, mgc⟩
  have s0o0q_m3 := Own.kept _ (Own.ext s0o0q_m2 h16) mgc (rng_apart (.inl (((h4.trans h5).trans h6).trans h7).size))
  have s1o0_m3 := Own.kept _ (Own.ext s1o0_m2 h16) mgc (rng_apart (.inl ((h5.trans h6).trans h7).size))
  have spo0_m3 := Own.kept _ (Own.ext spo0_m2 h16) mgc (rng_apart (.inl (h6.trans h7).size))
  have mx0o_m3 := Own.kept _ (Own.ext mx0o_m2 h16) mgc (rng_apart (.inl h7.size))
  have mx1o_m3 := Own.kept _ (Own.ext mx1o h16) mgc (rng_apart (.inl (Ext.refl _).size))
  have t0o0q_m3 := Own.kept _ (Own.ext t0o0q_m2 h16) mgc (rng_apart (.inr h9.size))
  have t1o0_m3 := Own.kept _ (Own.ext t1o0_m2 h16) mgc (rng_apart (.inr ((h9.trans h10).trans h11).size))
  have X3 := Ext.chg (X2.trans h16) mgc (fun i hi => Nat.le_trans ((((((h1.trans h2).trans h3).trans h4).trans h5).trans h6).trans h7).size hi.1)
  go_wp2_with fail
  refine (l_heldPathS ((prefer a0 a1 a2)) (.slice gpp0 ((prefer a0 a1 a2)).length gpc0) (1) _ ((Pth.ownS).rd mgo) (by omega) (by omega)).mono ?_
  rintro e w18 ⟨rfl, h18⟩
  have hmp : ¬ (1 + markPN (prefer a0 a1 a2)) < 0 := by omega
  go_wp2_with fail
  refine (l_toRevocationS a0 v0h0 _ (r0h0.ext (X3.trans h18)) y0).mono ?_
  rintro e w19 ⟨k0u0, rfl, k0o0, h19⟩
  have k0o0q := Own.ofF (hf := Revc.flen) k0o0
  go_wp2_with fail
  refine (l_toPathS a1 v1h0 _ (r1h0.ext (X3.trans (h18.trans h19))) y1).mono ?_
  rintro e w20 ⟨k1u0, rfl, k1o0, h20⟩
  go_wp2_with fail
  refine (i_PreferUnrevoked a0 k0u0 a1 k1u0 a2 _ ((((Own.flat Revc.f 3 Revc.flen 49)).rd k0o0q).ext h20) ((Pth.ownS).rd k1o0) y0 y1).mono ?_
  rintro e w21 ⟨hpu0, rfl, hpo0, h21⟩
  obtain ⟨hpp0, hpc0, rfl, hpl0⟩ := ((Pth.ownS).rd hpo0).shape; clear hpl0
  go_wp2_with fail
  refine (l_eqPathS (prefer a0 a1 a2) (prefer a0 a1 a2) (.slice hpp0 ((prefer a0 a1 a2)).length hpc0) (.slice spp0 ((prefer a0 a1 a2)).length spc0) _ ((Pth.ownS).rd hpo0) (((Pth.ownS).rd spo0_m3).ext (((h18.trans h19).trans h20).trans h21))).mono ?_
  rintro e w22 ⟨rfl, h22⟩
  rw [show decide ((prefer a0 a1 a2) = (prefer a0 a1 a2)) = true from decide_eq_true rfl]
  go_wp2_with fail
  refine (l_heldPathS ((prefer a0 a1 a2)) (.slice gpp0 ((prefer a0 a1 a2)).length gpc0) (1) _ (((Pth.ownS).rd mgo).ext ((((h18.trans h19).trans h20).trans h21).trans h22)) (by omega) (by omega)).mono ?_
  rintro e w23 ⟨rfl, h23⟩
  go_wp2_with fail
  go_ret
  exact ⟨rfl, (X3.trans (((((h18.trans h19).trans h20).trans h21).trans h22).trans h23))⟩

end Go.Proofs.Ytpeipodehflmaaa
