/- The walks of the exact laws over steps and kinds. No condition. -/
import Derived.Test.YtmjpjapjdhgchaaW30
namespace Go.Proofs.Ytmjpjapjdhgchaa
open Go.ChangeShapes Go.WideShapes Go.ChangeAt Go.RowKit Go.Deep

set_option maxHeartbeats 2000000 in
theorem l_FnExactReverseKind (a0 : Int) (w : World) (_ : I64 a0) :
    Calls Try.prog 5 #[.int .i64 a0] w fun e w' => e = .returned (.bool true) ∧ Ext w w' := by
  go_enter Try.func5, Try.ntmps5
  have hx0 : Ext w w := (Ext.refl _)
  go_wp2_with fail
  refine (s_ReverseKind a0 _  ).mono ?_
  rintro e w1 ⟨rfl, h1⟩
  go_wp2_with fail
  refine (i_ReverseKind a0 _  ).mono ?_
  rintro e w2 ⟨rfl, h2⟩
  go_wp2_with fail
  go_ret
  exact ⟨rfl, ((hx0.trans h1).trans h2)⟩

set_option maxHeartbeats 2000000 in
theorem l_FnExactEqualSteps (a0 : List Step) (v0 : Value) (a1 : List Step) (v1 : Value) (w : World) (r0 : RdS Step.rep w v0 a0) (_ : ∀ x ∈ a0, Step.ok x) (r1 : RdS Step.rep w v1 a1) (_ : ∀ x ∈ a1, Step.ok x) :
    Calls Try.prog 6 #[v0, v1] w fun e w' => e = .returned (.bool true) ∧ Ext w w' := by
  go_enter Try.func6, Try.ntmps6
  have hx0 : Ext w w := (Ext.refl _)
  go_wp2_with fail
  refine (l_szStepS a0 _ _ _ (r0.ext hx0) (by omega) (by omega)).mono ?_
  rintro e w1 ⟨rfl, h1⟩
  rcases Int.lt_or_le (1048576 - (a0.length : Int)) 0 with z0 | z0
  · rw [show szL (1048576) a0.length = -1 from if_pos z0]
    go_wp2_with fail
    go_ret
    exact ⟨rfl, (hx0.trans h1)⟩
  rw [show szL (1048576) a0.length = 1048576 - (a0.length : Int) from if_neg (by omega)]
  go_wp2_with fail
  refine (l_szStepS a1 _ (1048576 - (a0.length : Int)) _ (r1.ext (hx0.trans h1)) (by omega) (by omega)).mono ?_
  rintro e w2 ⟨rfl, h2⟩
  rcases Int.lt_or_le (1048576 - (a0.length : Int) - (a1.length : Int)) 0 with z1 | z1
  · rw [show szL (1048576 - (a0.length : Int)) a1.length = -1 from if_pos z1]
    go_wp2_with fail
    go_ret
    exact ⟨rfl, ((hx0.trans h1).trans h2)⟩
  rw [show szL (1048576 - (a0.length : Int)) a1.length = 1048576 - (a0.length : Int) - (a1.length : Int) from if_neg (by omega)]
  have y0 : a0.length ≤ 1048576 := by omega
  have y1 : a1.length ≤ 1048576 := by omega
  go_wp2_with fail
  refine (l_toStepS a0 v0 _ (r0.ext ((hx0.trans h1).trans h2)) y0).mono ?_
  rintro e w3 ⟨us0, rfl, os0, h3⟩
  go_wp2_with fail
  refine (l_toStepS a1 v1 _ (r1.ext (((hx0.trans h1).trans h2).trans h3)) y1).mono ?_
  rintro e w4 ⟨us1, rfl, os1, h4⟩
  go_wp2_with fail
  refine (s_EqualSteps a0 us0 a1 us1 _ ((OwnF.rd (hf := Step.flen) os0).ext h4) ((OwnF.rd (hf := Step.flen) os1).ext (Ext.refl _)) ).mono ?_
  rintro e w5 ⟨rfl, h5⟩
  go_wp2_with fail
  refine (l_toStepS a0 v0 _ (r0.ext (((((hx0.trans h1).trans h2).trans h3).trans h4).trans h5)) y0).mono ?_
  rintro e w6 ⟨x0, rfl, ox0, h6⟩
  go_wp2_with fail
  refine (l_toStepS a1 v1 _ (r1.ext ((((((hx0.trans h1).trans h2).trans h3).trans h4).trans h5).trans h6)) y1).mono ?_
  rintro e w7 ⟨x1, rfl, ox1, h7⟩
  go_wp2_with fail
  refine (i_EqualSteps a0 x0 a1 x1 _ ((OwnF.rd (hf := Step.flen) ox0).ext h7) ((OwnF.rd (hf := Step.flen) ox1).ext (Ext.refl _)) ).mono ?_
  rintro e w8 ⟨rfl, h8⟩
  go_wp2_with fail
  refine (l_toStepS a0 v0 _ (r0.ext ((((((((hx0.trans h1).trans h2).trans h3).trans h4).trans h5).trans h6).trans h7).trans h8)) y0).mono ?_
  rintro e w9 ⟨t0, rfl, ot0, h9⟩
  go_wp2_with fail
  refine (l_eqStepS a0 a0 x0 t0 _ ((OwnF.rd (hf := Step.flen) ox0).ext ((h7.trans h8).trans h9)) (OwnF.rd (hf := Step.flen) ot0)).mono ?_
  rintro e w10 ⟨rfl, h10⟩
  go_wp2_with fail
  refine (l_toStepS a1 v1 _ (r1.ext ((((((((((hx0.trans h1).trans h2).trans h3).trans h4).trans h5).trans h6).trans h7).trans h8).trans h9).trans h10)) y1).mono ?_
  rintro e w11 ⟨t1, rfl, ot1, h11⟩
  go_wp2_with fail
  refine (l_eqStepS a1 a1 x1 t1 _ ((OwnF.rd (hf := Step.flen) ox1).ext (((h8.trans h9).trans h10).trans h11)) (OwnF.rd (hf := Step.flen) ot1)).mono ?_
  rintro e w12 ⟨rfl, h12⟩
  go_wp2_with fail
  go_ret
  exact ⟨rfl, ((((((((((((hx0.trans h1).trans h2).trans h3).trans h4).trans h5).trans h6).trans h7).trans h8).trans h9).trans h10).trans h11).trans h12)⟩

set_option maxHeartbeats 2000000 in
theorem l_FnExactReverseSteps (a0 : List Step) (v0 : Value) (w : World) (r0 : RdS Step.rep w v0 a0) (_ : ∀ x ∈ a0, Step.ok x) :
    Calls Try.prog 10 #[v0] w fun e w' => e = .returned (.bool true) ∧ Ext w w' := by
  go_enter Try.func10, Try.ntmps10
  have hx0 : Ext w w := (Ext.refl _)
  go_wp2_with fail
  refine (l_szStepS a0 _ _ _ (r0.ext hx0) (by omega) (by omega)).mono ?_
  rintro e w1 ⟨rfl, h1⟩
  rcases Int.lt_or_le (1048576 - (a0.length : Int)) 0 with z0 | z0
  · rw [show szL (1048576) a0.length = -1 from if_pos z0]
    go_wp2_with fail
    go_ret
    exact ⟨rfl, (hx0.trans h1)⟩
  rw [show szL (1048576) a0.length = 1048576 - (a0.length : Int) from if_neg (by omega)]
  have y0 : a0.length ≤ 1048576 := by omega
  go_wp2_with fail
  refine (l_toStepS a0 v0 _ (r0.ext (hx0.trans h1)) y0).mono ?_
  rintro e w2 ⟨us0, rfl, os0, h2⟩
  go_wp2_with fail
  refine (s_ReverseSteps a0 us0 _ ((OwnF.rd (hf := Step.flen) os0).ext (Ext.refl _)) y0).mono ?_
  rintro e w3 ⟨sv, rfl, so, h3⟩
  go_wp2_with fail
  refine (l_toStepS a0 v0 _ (r0.ext (((hx0.trans h1).trans h2).trans h3)) y0).mono ?_
  rintro e w4 ⟨x0, rfl, ox0, h4⟩
  go_wp2_with fail
  refine (i_ReverseSteps a0 x0 _ ((OwnF.rd (hf := Step.flen) ox0).ext (Ext.refl _)) y0).mono ?_
  rintro e w5 ⟨gv, rfl, go, h5⟩
  go_wp2_with fail
  refine (l_eqStepS (revSteps a0) (revSteps a0) gv sv _ ((OwnF.rd (hf := Step.flen) go).ext (Ext.refl _)) ((OwnF.rd (hf := Step.flen) so).ext (h4.trans h5))).mono ?_
  rintro e w6 ⟨rfl, h6⟩
  go_wp2_with fail
  refine (l_toStepS a0 v0 _ (r0.ext ((((((hx0.trans h1).trans h2).trans h3).trans h4).trans h5).trans h6)) y0).mono ?_
  rintro e w7 ⟨t0, rfl, ot0, h7⟩
  go_wp2_with fail
  refine (l_eqStepS a0 a0 x0 t0 _ ((OwnF.rd (hf := Step.flen) ox0).ext ((h5.trans h6).trans h7)) (OwnF.rd (hf := Step.flen) ot0)).mono ?_
  rintro e w8 ⟨rfl, h8⟩
  go_wp2_with fail
  refine (l_markStepS a0 x0 (1) _ _ (ox0.ext (((h5.trans h6).trans h7).trans h8)) (by omega) (by omega)).mono ?_
  rintro e w9 ⟨rfl, _, m0⟩
  have go' := (go.ext ((h6.trans h7).trans h8)).kept m0 (fun k hk => Nat.lt_of_lt_of_le (ox0.block k hk).2 (Ext.refl _).size)
  clear go; have go := go'; clear go'
  have hlen : (revSteps a0).length ≤ 4294967296 := by simp [revSteps]; omega
  go_wp2_with fail
  refine (l_eqStepS (revSteps a0) (revSteps a0) gv sv _ ((OwnF.rd (hf := Step.flen) go).ext (Ext.refl _)) ((OwnF.rd (hf := Step.flen) so).ext (((((h4.trans h5).trans h6).trans h7).trans h8).grown m0 (fun _ hk => Nat.le_trans (Ext.refl _).size (ox0.block _ hk).1)))).mono ?_
  rintro e w10 ⟨rfl, h10⟩
  go_wp2_with fail
  refine (l_markStepS (revSteps a0) gv 1 _ _ (go.ext h10) (by omega) (by omega)).mono ?_
  rintro e w11 ⟨rfl, om, mg⟩
  go_wp2_with fail
  refine (l_heldStepS _ gv 1 _ (OwnF.rd (hf := Step.flen) om) (by omega) (by omega)).mono ?_
  rintro e w12 ⟨rfl, h12⟩
  go_wp2_with fail
  refine (l_toStepS a0 v0 _ (r0.ext ((((((((((((hx0.trans h1).trans h2).trans h3).trans h4).trans h5).trans h6).trans h7).trans h8).grown m0 (fun _ hk => Nat.le_trans (((hx0.trans h1).trans h2).trans h3).size (ox0.block _ hk).1)).trans h10).grown mg (fun _ hk => Nat.le_trans ((((hx0.trans h1).trans h2).trans h3).trans h4).size (go.block _ hk).1)).trans h12)) y0).mono ?_
  rintro e w13 ⟨uk0, rfl, ok0, h13⟩
  go_wp2_with fail
  refine (i_ReverseSteps a0 uk0 _ ((OwnF.rd (hf := Step.flen) ok0).ext (Ext.refl _)) y0).mono ?_
  rintro e w14 ⟨hv, rfl, ho, h14⟩
  go_wp2_with fail
  refine (l_eqStepS (revSteps a0) (revSteps a0) hv sv _ ((OwnF.rd (hf := Step.flen) ho).ext (Ext.refl _)) ((OwnF.rd (hf := Step.flen) so).ext ((((((((((h4.trans h5).trans h6).trans h7).trans h8).grown m0 (fun _ hk => Nat.le_trans (Ext.refl _).size (ox0.block _ hk).1)).trans h10).grown mg (fun _ hk => Nat.le_trans h4.size (go.block _ hk).1)).trans h12).trans h13).trans h14))).mono ?_
  rintro e w15 ⟨rfl, h15⟩
  go_wp2_with fail
  refine (l_heldStepS _ gv 1 _ ((OwnF.rd (hf := Step.flen) om).ext (((h12.trans h13).trans h14).trans h15)) (by omega) (by omega)).mono ?_
  rintro e w16 ⟨rfl, h16⟩
  go_wp2_with fail
  go_ret
  exact ⟨rfl, ((((((((((((((((hx0.trans h1).trans h2).trans h3).trans h4).trans h5).trans h6).trans h7).trans h8).grown m0 (fun _ hk => Nat.le_trans (((hx0.trans h1).trans h2).trans h3).size (ox0.block _ hk).1)).trans h10).grown mg (fun _ hk => Nat.le_trans ((((hx0.trans h1).trans h2).trans h3).trans h4).size (go.block _ hk).1)).trans h12).trans h13).trans h14).trans h15).trans h16)⟩

end Go.Proofs.Ytmjpjapjdhgchaa
