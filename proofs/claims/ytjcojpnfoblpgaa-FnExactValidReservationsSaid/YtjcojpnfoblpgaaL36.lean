/- The walk of the exact law over lists of reservations. No condition. -/
import Derived.Test.YtjcojpnfoblpgaaW36s
namespace Go.Proofs.Ytjcojpnfoblpgaa
open Go.ChangeShapes Go.WideShapes Go.ChangeAt Go.RowKit Go.Deep

set_option maxHeartbeats 2000000 in
theorem l_FnExactValidReservations (a0 : List Resv) (v0 : Value) (a1 : Int) (a2 : Int) (w : World) (r0 : RdS Resv.rep w v0 a0) (_ : ∀ x ∈ a0, Resv.ok x) (_ : I64 a1) (_ : I64 a2) :
    Calls Try.prog 5 #[v0, .int .i64 a1, .int .i64 a2] w fun e w' => e = .returned (.bool true) ∧ Ext w w' := by
  go_enter Try.func5, Try.ntmps5
  have hx0 : Ext w w := (Ext.refl _)
  go_wp2_with fail
  refine (l_szReservationS a0 _ _ _ (r0.ext hx0) (by omega) (by omega)).mono ?_
  rintro e w1 ⟨rfl, h1⟩
  rcases Int.lt_or_le (1048576 - (a0.length : Int)) 0 with z0 | z0
  · rw [show szL (1048576) a0.length = -1 from if_pos z0]
    go_wp2_with fail
    go_ret
    exact ⟨rfl, (hx0.trans h1)⟩
  rw [show szL (1048576) a0.length = 1048576 - (a0.length : Int) from if_neg (by omega)]
  have y0 : a0.length ≤ 1048576 := by omega
  go_wp2_with fail
  refine (l_toReservationS a0 v0 _ (r0.ext (hx0.trans h1)) y0).mono ?_
  rintro e w2 ⟨us0, rfl, os0, h2⟩
  go_wp2_with fail
  refine (s_ValidReservations a0 us0 a1 a2 _ ((OwnF.rd (hf := Resv.flen) os0).ext (Ext.refl _)) y0).mono ?_
  rintro e w3 ⟨rfl, h3⟩
  go_wp2_with fail
  refine (l_toReservationS a0 v0 _ (r0.ext (((hx0.trans h1).trans h2).trans h3)) y0).mono ?_
  rintro e w4 ⟨x0, rfl, ox0, h4⟩
  go_wp2_with fail
  refine (i_ValidReservations a0 x0 a1 a2 _ ((OwnF.rd (hf := Resv.flen) ox0).ext (Ext.refl _)) ).mono ?_
  rintro e w5 ⟨rfl, h5⟩
  go_wp2_with fail
  refine (l_toReservationS a0 v0 _ (r0.ext (((((hx0.trans h1).trans h2).trans h3).trans h4).trans h5)) y0).mono ?_
  rintro e w6 ⟨t0, rfl, ot0, h6⟩
  go_wp2_with fail
  refine (l_eqReservationS a0 a0 x0 t0 _ ((OwnF.rd (hf := Resv.flen) ox0).ext (h5.trans h6)) (OwnF.rd (hf := Resv.flen) ot0)).mono ?_
  rintro e w7 ⟨rfl, h7⟩
  go_wp2_with fail
  go_ret
  exact ⟨rfl, (((((((hx0.trans h1).trans h2).trans h3).trans h4).trans h5).trans h6).trans h7)⟩

end Go.Proofs.Ytjcojpnfoblpgaa
