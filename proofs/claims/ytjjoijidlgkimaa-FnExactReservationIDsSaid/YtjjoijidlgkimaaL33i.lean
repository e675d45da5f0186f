/- The walk of the exact law over the IDs of reservations. No condition. -/
import Derived.Test.YtjjoijidlgkimaaW33i
import Derived.Test.YtjjoijidlgkimaaTyPartM
namespace Go.Proofs.Ytjjoijidlgkimaa
open Go.ChangeShapes Go.WideShapes Go.ChangeAt Go.RowKit Go.Deep

theorem lmF_ReservationS (l : List Resv) (v : Value) (k : Int) (S : Nat → Prop) (w : World) (o : ((Own.flat Resv.f 5 Resv.flen 109)).own S w v l) (h0 : 0 ≤ k) (h1 : k + 5 * l.length ≤ 4611686018427387904) :
    Calls Try.prog 42 #[v, .int .i64 k] w fun e w' => e = .returned (.int .i64 (k + 5 * l.length)) ∧ ((Own.flat Resv.f 5 Resv.flen 109)).own S w' v (markL Resv.mk' 5 (k) (l).length) ∧ Chg S w w' :=
  (l_markReservationS l v k 0 w o.1 h0 h1).mono fun _ _ ⟨he, ho, hg⟩ => ⟨he, ⟨ho, o.2⟩, Chg.ofGrown hg o.2⟩

theorem lmF_IntS (l : List Int) (v : Value) (k : Int) (S : Nat → Prop) (w : World) (o : ((Own.flat intF 1 intFlen 3)).own S w v l) (h0 : 0 ≤ k) (h1 : k + l.length ≤ 4611686018427387904) :
    Calls Try.prog 43 #[v, .int .i64 k] w fun e w' => e = .returned (.int .i64 (k + l.length)) ∧ ((Own.flat intF 1 intFlen 3)).own S w' v (markL intMk 1 (k) (l).length) ∧ Chg S w w' :=
  (l_markIntS l v k 0 w o.1 h0 (by omega)).mono fun _ _ ⟨he, ho, hg⟩ => ⟨he.trans (by rw [Int.one_mul]), ⟨ho, o.2⟩, Chg.ofGrown hg o.2⟩

set_option maxRecDepth 100000 in
set_option maxHeartbeats 8000000 in
theorem l_FnExactReservationIDs (a0 : List Resv) (v0h0 : Value) (w : World) (r0h0 : RdS Resv.rep w v0h0 a0) (_ : ∀ x ∈ a0, Resv.ok x) :
    Calls Try.prog 6 #[v0h0] w fun e w' => e = .returned (.bool true) ∧ Ext w w' := by
  go_enter Try.func6, Try.ntmps6
  go_wp2_with fail
  refine (l_szReservationS a0 _ (1048576) _ (r0h0.ext (Ext.refl _)) (by omega) (by omega)).mono ?_
  rintro e w1 ⟨rfl, h1⟩
  rcases Int.lt_or_le (1048576 - (a0.length : Int)) 0 with z0 | z0
  · rw [show szL (1048576) a0.length = -1 from if_pos z0]
    go_wp2_with fail
    go_ret
    exact ⟨rfl, h1⟩
  rw [show szL (1048576) a0.length = 1048576 - (a0.length : Int) from if_neg (by omega)]
  have y0 : a0.length ≤ 1048576 := by omega
  have yr0 : (idsOf a0).length ≤ 1048576 := by
    have h := idsOf_len a0
    omega
  go_wp2_with fail
  refine (l_toReservationS a0 v0h0 _ (r0h0.ext h1) y0).mono ?_
  rintro e w2 ⟨s0u0, rfl, s0o0, h2⟩
  have s0o0q := Own.ofF (hf := Resv.flen) s0o0
  go_wp2_with fail
  refine (s_ReservationIDs a0 s0u0 _ (((Own.flat Resv.f 5 Resv.flen 109)).rd s0o0q) y0).mono ?_
  rintro e w3 ⟨spu0, rfl, spo0, h3⟩
  have spo0q := Own.ofF (hf := intFlen) spo0
  obtain ⟨spp0, spc0, rfl, spl0⟩ := (((Own.flat intF 1 intFlen 3)).rd spo0q).shape; clear spl0
  go_wp2_with fail
  refine (l_toReservationS a0 v0h0 _ (r0h0.ext ((h1.trans h2).trans h3)) y0).mono ?_
  rintro e w4 ⟨x0u0, rfl, x0o0, h4⟩
  have x0o0q := Own.ofF (hf := Resv.flen) x0o0
  obtain ⟨x0sp0, x0sc0, rfl, x0sl0⟩ := (((Own.flat Resv.f 5 Resv.flen 109)).rd x0o0q).shape; clear x0sl0
  go_wp2_with fail
  refine (i_ReservationIDs a0 (.slice x0sp0 (a0).length x0sc0) _ (((Own.flat Resv.f 5 Resv.flen 109)).rd x0o0q) y0).mono ?_
  rintro e w5 ⟨gpu0, rfl, gpo0, h5⟩
  have gpo0q := Own.ofF (hf := intFlen) gpo0
  obtain ⟨gpp0, gpc0, rfl, gpl0⟩ := (((Own.flat intF 1 intFlen 3)).rd gpo0q).shape; clear gpl0
  go_wp2_with fail
  refine (l_eqIntS (idsOf a0) (idsOf a0) (.slice gpp0 ((idsOf a0)).length gpc0) (.slice spp0 ((idsOf a0)).length spc0) _ (((Own.flat intF 1 intFlen 3)).rd gpo0q) ((((Own.flat intF 1 intFlen 3)).rd spo0q).ext (h4.trans h5))).mono ?_
  rintro e w6 ⟨rfl, h6⟩
  rw [show decide ((idsOf a0) = (idsOf a0)) = true from decide_eq_true rfl]
  go_wp2_with fail
  refine (l_toReservationS a0 v0h0 _ (r0h0.ext (((((h1.trans h2).trans h3).trans h4).trans h5).trans h6)) y0).mono ?_
  rintro e w7 ⟨t0u0, rfl, t0o0, h7⟩
  have t0o0q := Own.ofF (hf := Resv.flen) t0o0
  go_wp2_with fail
  refine (l_eqReservationS a0 a0 (.slice x0sp0 (a0).length x0sc0) t0u0 _ ((((Own.flat Resv.f 5 Resv.flen 109)).rd x0o0q).ext ((h5.trans h6).trans h7)) (((Own.flat Resv.f 5 Resv.flen 109)).rd t0o0q)).mono ?_
  rintro e w8 ⟨rfl, h8⟩
  rw [show decide (a0 = a0) = true from decide_eq_true rfl]
  go_wp2_with fail
  refine (lmF_ReservationS (a0) (.slice x0sp0 (a0).length x0sc0) (1) _ _ (Own.ext x0o0q (((h5.trans h6).trans h7).trans h8)) (by omega) (by omega)).mono ?_
  rintro e w9 ⟨rfl, mx0o, mx0c⟩
  have s0o0q_m1 := Own.kept _ (Own.ext s0o0q (((((h3.trans h4).trans h5).trans h6).trans h7).trans h8)) mx0c (rng_apart (.inl h3.size))
  have spo0q_m1 := Own.kept _ (Own.ext spo0q ((((h4.trans h5).trans h6).trans h7).trans h8)) mx0c (rng_apart (.inl (Ext.refl _).size))
  have gpo0q_m1 := Own.kept _ (Own.ext gpo0q ((h6.trans h7).trans h8)) mx0c (rng_apart (.inr (Ext.refl _).size))
  have t0o0q_m1 := Own.kept _ (Own.ext t0o0q h8) mx0c (rng_apart (.inr (h5.trans h6).size))
  have X1 := Ext.chg (((((((h1.trans h2).trans h3).trans h4).trans h5).trans h6).trans h7).trans h8) mx0c (fun i hi => Nat.le_trans ((h1.trans h2).trans h3).size hi.1)
  have hqp : ¬ (1 + 5 * ((a0).length : Int)) < 0 := by omega
  go_wp2_with fail
  refine (l_eqIntS (idsOf a0) (idsOf a0) (.slice gpp0 ((idsOf a0)).length gpc0) (.slice spp0 ((idsOf a0)).length spc0) _ (((Own.flat intF 1 intFlen 3)).rd gpo0q_m1) (((Own.flat intF 1 intFlen 3)).rd spo0q_m1)).mono ?_
  rintro e w10 ⟨rfl, h10⟩
  rw [show decide ((idsOf a0) = (idsOf a0)) = true from decide_eq_true rfl]
  go_wp2_with fail
  refine (lmF_IntS ((idsOf a0)) (.slice gpp0 ((idsOf a0)).length gpc0) (1) _ _ (Own.ext gpo0q_m1 h10) (by omega) (by omega)).mono ?_
  rintro e w11 ⟨rfl, mgo, mgc⟩
  have s0o0q_m2 := Own.kept _ (Own.ext s0o0q_m1 h10) mgc (rng_apart (.inl (h3.trans h4).size))
  have spo0q_m2 := Own.kept _ (Own.ext spo0q_m1 h10) mgc (rng_apart (.inl h4.size))
  have mx0o_m2 := Own.kept _ (Own.ext mx0o h10) mgc (rng_apart (.inl (Ext.refl _).size))
  have t0o0q_m2 := Own.kept _ (Own.ext t0o0q_m1 h10) mgc (rng_apart (.inr h6.size))
  have X2 := Ext.chg (X1.trans h10) mgc (fun i hi => Nat.le_trans (((h1.trans h2).trans h3).trans h4).size hi.1)
  go_wp2_with fail
  refine (l_heldIntS _ (.slice gpp0 ((idsOf a0)).length gpc0) (1) _ (((Own.flat intF 1 intFlen 3)).rd mgo) (by omega) (by omega)).mono ?_
  rintro e w12 ⟨rfl, h12⟩
  have hmp : ¬ (1 + (((idsOf a0)).length : Int)) < 0 := by omega
  go_wp2_with fail
  refine (l_toReservationS a0 v0h0 _ (r0h0.ext (X2.trans h12)) y0).mono ?_
  rintro e w13 ⟨k0u0, rfl, k0o0, h13⟩
  have k0o0q := Own.ofF (hf := Resv.flen) k0o0
  go_wp2_with fail
  refine (i_ReservationIDs a0 k0u0 _ (((Own.flat Resv.f 5 Resv.flen 109)).rd k0o0q) y0).mono ?_
  rintro e w14 ⟨hpu0, rfl, hpo0, h14⟩
  have hpo0q := Own.ofF (hf := intFlen) hpo0
  obtain ⟨hpp0, hpc0, rfl, hpl0⟩ := (((Own.flat intF 1 intFlen 3)).rd hpo0q).shape; clear hpl0
  go_wp2_with fail
  refine (l_eqIntS (idsOf a0) (idsOf a0) (.slice hpp0 ((idsOf a0)).length hpc0) (.slice spp0 ((idsOf a0)).length spc0) _ (((Own.flat intF 1 intFlen 3)).rd hpo0q) ((((Own.flat intF 1 intFlen 3)).rd spo0q_m2).ext ((h12.trans h13).trans h14))).mono ?_
  rintro e w15 ⟨rfl, h15⟩
  rw [show decide ((idsOf a0) = (idsOf a0)) = true from decide_eq_true rfl]
  go_wp2_with fail
  refine (l_heldIntS _ (.slice gpp0 ((idsOf a0)).length gpc0) (1) _ ((((Own.flat intF 1 intFlen 3)).rd mgo).ext (((h12.trans h13).trans h14).trans h15)) (by omega) (by omega)).mono ?_
  rintro e w16 ⟨rfl, h16⟩
  go_wp2_with fail
  go_ret
  exact ⟨rfl, (X2.trans ((((h12.trans h13).trans h14).trans h15).trans h16))⟩

end Go.Proofs.Ytjjoijidlgkimaa
