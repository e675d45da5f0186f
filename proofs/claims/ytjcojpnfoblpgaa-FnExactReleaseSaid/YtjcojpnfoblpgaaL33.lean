/- The walks of the exact laws over the filters of revocations and reservations. No condition. -/
import Derived.Test.YtjcojpnfoblpgaaW33
namespace Go.Proofs.Ytjcojpnfoblpgaa
open Go.ChangeShapes Go.WideShapes Go.ChangeAt Go.RowKit Go.Deep

theorem filt_le {α : Type} (p : α → Bool) (l : List α) (h : l.length ≤ 1048576) : (l.filter p).length ≤ 4294967296 := Nat.le_trans (List.length_filter_le _ _) (by omega)



set_option maxHeartbeats 2000000 in
theorem l_FnExactRelease (a0 : List Resv) (v0 : Value) (a1 : Int) (w : World) (r0 : RdS Resv.rep w v0 a0) (_ : ∀ x ∈ a0, Resv.ok x) (_ : I64 a1) :
    Calls Try.prog 3 #[v0, .int .i64 a1] w fun e w' => e = .returned (.bool true) ∧ Ext w w' := by
  go_enter Try.func3, Try.ntmps3
  have hx0 : Ext w w := (Ext.refl _)
  go_wp2_with fail
  refine (l_szReservationS a0 _ _ _ (r0.ext hx0) (by omega) (by omega)).mono ?_
  rintro e w1 ⟨rfl, h1⟩
  rcases Int.lt_or_le (1048576 - (a0.length : Int)) 0 with z0 | z0
  · rw [show szL (1048576) a0.length = -1 from if_pos z0]
    go_wp2_with fail
    go_ret
    exact ⟨rfl, (hx0.trans h1)⟩
  rw [show szL (1048576) a0.length = 1048576 - (a0.length : Int) from if_neg (by omega)]
  have y0 : a0.length ≤ 1048576 := by omega
  go_wp2_with fail
  refine (l_toReservationS a0 v0 _ (r0.ext (hx0.trans h1)) y0).mono ?_
  rintro e w2 ⟨us0, rfl, os0, h2⟩
  go_wp2_with fail
  refine (s_Release a0 us0 a1 _ ((OwnF.rd (hf := Resv.flen) os0).ext (Ext.refl _)) y0).mono ?_
  rintro e w3 ⟨sv, rfl, so, h3⟩
  go_wp2_with fail
  refine (l_toReservationS a0 v0 _ (r0.ext (((hx0.trans h1).trans h2).trans h3)) y0).mono ?_
  rintro e w4 ⟨x0, rfl, ox0, h4⟩
  go_wp2_with fail
  refine (i_Release a0 x0 a1 _ ((OwnF.rd (hf := Resv.flen) ox0).ext (Ext.refl _)) y0).mono ?_
  rintro e w5 ⟨gv, rfl, go, h5⟩
  go_wp2_with fail
  refine (l_eqReservationS (release a1 a0) (release a1 a0) gv sv _ ((OwnF.rd (hf := Resv.flen) go).ext (Ext.refl _)) ((OwnF.rd (hf := Resv.flen) so).ext (h4.trans h5))).mono ?_
  rintro e w6 ⟨rfl, h6⟩
  go_wp2_with fail
  refine (l_toReservationS a0 v0 _ (r0.ext ((((((hx0.trans h1).trans h2).trans h3).trans h4).trans h5).trans h6)) y0).mono ?_
  rintro e w7 ⟨t0, rfl, ot0, h7⟩
  go_wp2_with fail
  refine (l_eqReservationS a0 a0 x0 t0 _ ((OwnF.rd (hf := Resv.flen) ox0).ext ((h5.trans h6).trans h7)) (OwnF.rd (hf := Resv.flen) ot0)).mono ?_
  rintro e w8 ⟨rfl, h8⟩
  go_wp2_with fail
  refine (l_markReservationS a0 x0 (1) _ _ (ox0.ext (((h5.trans h6).trans h7).trans h8)) (by omega) (by omega)).mono ?_
  rintro e w9 ⟨rfl, _, m0⟩
  have go' := (go.ext ((h6.trans h7).trans h8)).kept m0 (fun k hk => Nat.lt_of_lt_of_le (ox0.block k hk).2 (Ext.refl _).size)
  clear go; have go := go'; clear go'
  have hlen : (release a1 a0).length ≤ 4294967296 := by exact filt_le _ _ y0
  go_wp2_with fail
  refine (l_eqReservationS (release a1 a0) (release a1 a0) gv sv _ ((OwnF.rd (hf := Resv.flen) go).ext (Ext.refl _)) ((OwnF.rd (hf := Resv.flen) so).ext (((((h4.trans h5).trans h6).trans h7).trans h8).grown m0 (fun _ hk => Nat.le_trans (Ext.refl _).size (ox0.block _ hk).1)))).mono ?_
  rintro e w10 ⟨rfl, h10⟩
  go_wp2_with fail
  refine (l_markReservationS (release a1 a0) gv 1 _ _ (go.ext h10) (by omega) (by omega)).mono ?_
  rintro e w11 ⟨rfl, om, mg⟩
  go_wp2_with fail
  refine (l_heldReservationS _ gv 1 _ (OwnF.rd (hf := Resv.flen) om) (by omega) (by omega)).mono ?_
  rintro e w12 ⟨rfl, h12⟩
  go_wp2_with fail
  refine (l_toReservationS a0 v0 _ (r0.ext ((((((((((((hx0.trans h1).trans h2).trans h3).trans h4).trans h5).trans h6).trans h7).trans h8).grown m0 (fun _ hk => Nat.le_trans (((hx0.trans h1).trans h2).trans h3).size (ox0.block _ hk).1)).trans h10).grown mg (fun _ hk => Nat.le_trans ((((hx0.trans h1).trans h2).trans h3).trans h4).size (go.block _ hk).1)).trans h12)) y0).mono ?_
  rintro e w13 ⟨uk0, rfl, ok0, h13⟩
  go_wp2_with fail
  refine (i_Release a0 uk0 a1 _ ((OwnF.rd (hf := Resv.flen) ok0).ext (Ext.refl _)) y0).mono ?_
  rintro e w14 ⟨hv, rfl, ho, h14⟩
  go_wp2_with fail
  refine (l_eqReservationS (release a1 a0) (release a1 a0) hv sv _ ((OwnF.rd (hf := Resv.flen) ho).ext (Ext.refl _)) ((OwnF.rd (hf := Resv.flen) so).ext ((((((((((h4.trans h5).trans h6).trans h7).trans h8).grown m0 (fun _ hk => Nat.le_trans (Ext.refl _).size (ox0.block _ hk).1)).trans h10).grown mg (fun _ hk => Nat.le_trans h4.size (go.block _ hk).1)).trans h12).trans h13).trans h14))).mono ?_
  rintro e w15 ⟨rfl, h15⟩
  go_wp2_with fail
  refine (l_heldReservationS _ gv 1 _ ((OwnF.rd (hf := Resv.flen) om).ext (((h12.trans h13).trans h14).trans h15)) (by omega) (by omega)).mono ?_
  rintro e w16 ⟨rfl, h16⟩
  go_wp2_with fail
  go_ret
  exact ⟨rfl, ((((((((((((((((hx0.trans h1).trans h2).trans h3).trans h4).trans h5).trans h6).trans h7).trans h8).grown m0 (fun _ hk => Nat.le_trans (((hx0.trans h1).trans h2).trans h3).size (ox0.block _ hk).1)).trans h10).grown mg (fun _ hk => Nat.le_trans ((((hx0.trans h1).trans h2).trans h3).trans h4).size (go.block _ hk).1)).trans h12).trans h13).trans h14).trans h15).trans h16)⟩

end Go.Proofs.Ytjcojpnfoblpgaa
