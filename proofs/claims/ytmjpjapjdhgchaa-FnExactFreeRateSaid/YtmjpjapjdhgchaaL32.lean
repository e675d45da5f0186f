/- The walks of the exact laws over reservations that answer a number or a bool. No condition. -/
import Derived.Test.YtmjpjapjdhgchaaW32
namespace Go.Proofs.Ytmjpjapjdhgchaa
open Go.ChangeShapes Go.WideShapes Go.ChangeAt Go.RowKit Go.Deep

set_option maxHeartbeats 2000000 in
theorem l_FnExactValidReservation (a0 : Resv) (w : World) (_ : a0.ok) :
    Calls Try.prog 4 #[.agg #[.int .i64 a0.id, .int .i64 a0.asn, .int .i64 a0.iface, .int .i64 a0.rate, .int .i64 a0.till]] w fun e w' => e = .returned (.bool true) ∧ Ext w w' := by
  go_enter Try.func4, Try.ntmps4
  have hx0 : Ext w (w.alloc (.cells #[.int .i64 a0.id, .int .i64 a0.asn, .int .i64 a0.iface, .int .i64 a0.rate, .int .i64 a0.till] 29)) := ((Ext.refl _).alloc _)
  have hB0 := Ext.block ((Ext.refl _)) (blk_new w (.cells #[.int .i64 a0.id, .int .i64 a0.asn, .int .i64 a0.iface, .int .i64 a0.rate, .int .i64 a0.till] 29))
  have HB0 := Lib.hid hB0; clear hB0
  go_wp2_with fail
  refine (l_toReservation a0 _).mono ?_
  rintro e w1 ⟨rfl, h1⟩
  have hc0_1 := blk5 (h1.block HB0.out)
  go_wp2_with fail
  refine (s_ValidReservation a0 _  ).mono ?_
  rintro e w2 ⟨rfl, h2⟩
  have hc0_2 := blk5 ((h1.trans h2).block HB0.out)
  go_wp2_with fail
  refine (l_toReservation a0 _).mono ?_
  rintro e w3 ⟨rfl, h3⟩
  have hc0_3 := blk5 (((h1.trans h2).trans h3).block HB0.out)
  go_wp2_with fail
  refine (i_ValidReservation a0 _  ).mono ?_
  rintro e w4 ⟨rfl, h4⟩
  go_wp2_with fail
  go_ret
  exact ⟨rfl, ((((hx0.trans h1).trans h2).trans h3).trans h4)⟩

set_option maxHeartbeats 2000000 in
theorem l_FnExactReservationRate (a0 : List Resv) (v0 : Value) (a1 : Int) (a2 : Int) (a3 : Int) (a4 : Int) (w : World) (r0 : RdS Resv.rep w v0 a0) (_ : ∀ x ∈ a0, Resv.ok x) (_ : I64 a1) (_ : I64 a2) (_ : I64 a3) (_ : I64 a4) :
    Calls Try.prog 7 #[v0, .int .i64 a1, .int .i64 a2, .int .i64 a3, .int .i64 a4] w fun e w' => e = .returned (.bool true) ∧ Ext w w' := by
  go_enter Try.func7, Try.ntmps7
  have hx0 : Ext w w := (Ext.refl _)
  go_wp2_with fail
  refine (l_szReservationS a0 _ _ _ (r0.ext hx0) (by omega) (by omega)).mono ?_
  rintro e w1 ⟨rfl, h1⟩
  rcases Int.lt_or_le (1048576 - (a0.length : Int)) 0 with z0 | z0
  · rw [show szL (1048576) a0.length = -1 from if_pos z0]
    go_wp2_with fail
    go_ret
    exact ⟨rfl, (hx0.trans h1)⟩
  rw [show szL (1048576) a0.length = 1048576 - (a0.length : Int) from if_neg (by omega)]
  have y0 : a0.length ≤ 1048576 := by omega
  go_wp2_with fail
  refine (l_toReservationS a0 v0 _ (r0.ext (hx0.trans h1)) y0).mono ?_
  rintro e w2 ⟨us0, rfl, os0, h2⟩
  go_wp2_with fail
  refine (s_ReservationRate a0 us0 a1 a2 a3 a4 _ ((OwnF.rd (hf := Resv.flen) os0).ext (Ext.refl _)) ).mono ?_
  rintro e w3 ⟨rfl, h3⟩
  go_wp2_with fail
  refine (l_toReservationS a0 v0 _ (r0.ext (((hx0.trans h1).trans h2).trans h3)) y0).mono ?_
  rintro e w4 ⟨x0, rfl, ox0, h4⟩
  go_wp2_with fail
  refine (i_ReservationRate a0 x0 a1 a2 a3 a4 _ ((OwnF.rd (hf := Resv.flen) ox0).ext (Ext.refl _)) ).mono ?_
  rintro e w5 ⟨rfl, h5⟩
  go_wp2_with fail
  refine (l_toReservationS a0 v0 _ (r0.ext (((((hx0.trans h1).trans h2).trans h3).trans h4).trans h5)) y0).mono ?_
  rintro e w6 ⟨t0, rfl, ot0, h6⟩
  go_wp2_with fail
  refine (l_eqReservationS a0 a0 x0 t0 _ ((OwnF.rd (hf := Resv.flen) ox0).ext (h5.trans h6)) (OwnF.rd (hf := Resv.flen) ot0)).mono ?_
  rintro e w7 ⟨rfl, h7⟩
  go_wp2_with fail
  go_ret
  exact ⟨rfl, (((((((hx0.trans h1).trans h2).trans h3).trans h4).trans h5).trans h6).trans h7)⟩

set_option maxHeartbeats 2000000 in
theorem l_FnExactEqualReservations (a0 : List Resv) (v0 : Value) (a1 : List Resv) (v1 : Value) (w : World) (r0 : RdS Resv.rep w v0 a0) (_ : ∀ x ∈ a0, Resv.ok x) (r1 : RdS Resv.rep w v1 a1) (_ : ∀ x ∈ a1, Resv.ok x) :
    Calls Try.prog 8 #[v0, v1] w fun e w' => e = .returned (.bool true) ∧ Ext w w' := by
  go_enter Try.func8, Try.ntmps8
  have hx0 : Ext w w := (Ext.refl _)
  go_wp2_with fail
  refine (l_szReservationS a0 _ _ _ (r0.ext hx0) (by omega) (by omega)).mono ?_
  rintro e w1 ⟨rfl, h1⟩
  rcases Int.lt_or_le (1048576 - (a0.length : Int)) 0 with z0 | z0
  · rw [show szL (1048576) a0.length = -1 from if_pos z0]
    go_wp2_with fail
    go_ret
    exact ⟨rfl, (hx0.trans h1)⟩
  rw [show szL (1048576) a0.length = 1048576 - (a0.length : Int) from if_neg (by omega)]
  go_wp2_with fail
  refine (l_szReservationS a1 _ (1048576 - (a0.length : Int)) _ (r1.ext (hx0.trans h1)) (by omega) (by omega)).mono ?_
  rintro e w2 ⟨rfl, h2⟩
  rcases Int.lt_or_le (1048576 - (a0.length : Int) - (a1.length : Int)) 0 with z1 | z1
  · rw [show szL (1048576 - (a0.length : Int)) a1.length = -1 from if_pos z1]
    go_wp2_with fail
    go_ret
    exact ⟨rfl, ((hx0.trans h1).trans h2)⟩
  rw [show szL (1048576 - (a0.length : Int)) a1.length = 1048576 - (a0.length : Int) - (a1.length : Int) from if_neg (by omega)]
  have y0 : a0.length ≤ 1048576 := by omega
  have y1 : a1.length ≤ 1048576 := by omega
  go_wp2_with fail
  refine (l_toReservationS a0 v0 _ (r0.ext ((hx0.trans h1).trans h2)) y0).mono ?_
  rintro e w3 ⟨us0, rfl, os0, h3⟩
  go_wp2_with fail
  refine (l_toReservationS a1 v1 _ (r1.ext (((hx0.trans h1).trans h2).trans h3)) y1).mono ?_
  rintro e w4 ⟨us1, rfl, os1, h4⟩
  go_wp2_with fail
  refine (s_EqualReservations a0 us0 a1 us1 _ ((OwnF.rd (hf := Resv.flen) os0).ext h4) ((OwnF.rd (hf := Resv.flen) os1).ext (Ext.refl _)) ).mono ?_
  rintro e w5 ⟨rfl, h5⟩
  go_wp2_with fail
  refine (l_toReservationS a0 v0 _ (r0.ext (((((hx0.trans h1).trans h2).trans h3).trans h4).trans h5)) y0).mono ?_
  rintro e w6 ⟨x0, rfl, ox0, h6⟩
  go_wp2_with fail
  refine (l_toReservationS a1 v1 _ (r1.ext ((((((hx0.trans h1).trans h2).trans h3).trans h4).trans h5).trans h6)) y1).mono ?_
  rintro e w7 ⟨x1, rfl, ox1, h7⟩
  go_wp2_with fail
  refine (i_EqualReservations a0 x0 a1 x1 _ ((OwnF.rd (hf := Resv.flen) ox0).ext h7) ((OwnF.rd (hf := Resv.flen) ox1).ext (Ext.refl _)) ).mono ?_
  rintro e w8 ⟨rfl, h8⟩
  go_wp2_with fail
  refine (l_toReservationS a0 v0 _ (r0.ext ((((((((hx0.trans h1).trans h2).trans h3).trans h4).trans h5).trans h6).trans h7).trans h8)) y0).mono ?_
  rintro e w9 ⟨t0, rfl, ot0, h9⟩
  go_wp2_with fail
  refine (l_eqReservationS a0 a0 x0 t0 _ ((OwnF.rd (hf := Resv.flen) ox0).ext ((h7.trans h8).trans h9)) (OwnF.rd (hf := Resv.flen) ot0)).mono ?_
  rintro e w10 ⟨rfl, h10⟩
  go_wp2_with fail
  refine (l_toReservationS a1 v1 _ (r1.ext ((((((((((hx0.trans h1).trans h2).trans h3).trans h4).trans h5).trans h6).trans h7).trans h8).trans h9).trans h10)) y1).mono ?_
  rintro e w11 ⟨t1, rfl, ot1, h11⟩
  go_wp2_with fail
  refine (l_eqReservationS a1 a1 x1 t1 _ ((OwnF.rd (hf := Resv.flen) ox1).ext (((h8.trans h9).trans h10).trans h11)) (OwnF.rd (hf := Resv.flen) ot1)).mono ?_
  rintro e w12 ⟨rfl, h12⟩
  go_wp2_with fail
  go_ret
  exact ⟨rfl, ((((((((((((hx0.trans h1).trans h2).trans h3).trans h4).trans h5).trans h6).trans h7).trans h8).trans h9).trans h10).trans h11).trans h12)⟩

set_option maxHeartbeats 2000000 in
theorem l_FnExactReservedRate (a0 : List Resv) (v0 : Value) (a1 : Int) (a2 : Int) (a3 : Int) (w : World) (r0 : RdS Resv.rep w v0 a0) (_ : ∀ x ∈ a0, Resv.ok x) (_ : I64 a1) (_ : I64 a2) (_ : I64 a3) :
    Calls Try.prog 9 #[v0, .int .i64 a1, .int .i64 a2, .int .i64 a3] w fun e w' => e = .returned (.bool true) ∧ Ext w w' := by
  go_enter Try.func9, Try.ntmps9
  have hx0 : Ext w w := (Ext.refl _)
  go_wp2_with fail
  refine (l_szReservationS a0 _ _ _ (r0.ext hx0) (by omega) (by omega)).mono ?_
  rintro e w1 ⟨rfl, h1⟩
  rcases Int.lt_or_le (1048576 - (a0.length : Int)) 0 with z0 | z0
  · rw [show szL (1048576) a0.length = -1 from if_pos z0]
    go_wp2_with fail
    go_ret
    exact ⟨rfl, (hx0.trans h1)⟩
  rw [show szL (1048576) a0.length = 1048576 - (a0.length : Int) from if_neg (by omega)]
  have y0 : a0.length ≤ 1048576 := by omega
  go_wp2_with fail
  refine (l_toReservationS a0 v0 _ (r0.ext (hx0.trans h1)) y0).mono ?_
  rintro e w2 ⟨us0, rfl, os0, h2⟩
  go_wp2_with fail
  refine (s_ReservedRate a0 us0 a1 a2 a3 _ ((OwnF.rd (hf := Resv.flen) os0).ext (Ext.refl _)) ).mono ?_
  rintro e w3 ⟨rfl, h3⟩
  go_wp2_with fail
  refine (l_toReservationS a0 v0 _ (r0.ext (((hx0.trans h1).trans h2).trans h3)) y0).mono ?_
  rintro e w4 ⟨x0, rfl, ox0, h4⟩
  go_wp2_with fail
  refine (i_ReservedRate a0 x0 a1 a2 a3 _ ((OwnF.rd (hf := Resv.flen) ox0).ext (Ext.refl _)) ).mono ?_
  rintro e w5 ⟨rfl, h5⟩
  go_wp2_with fail
  refine (l_toReservationS a0 v0 _ (r0.ext (((((hx0.trans h1).trans h2).trans h3).trans h4).trans h5)) y0).mono ?_
  rintro e w6 ⟨t0, rfl, ot0, h6⟩
  go_wp2_with fail
  refine (l_eqReservationS a0 a0 x0 t0 _ ((OwnF.rd (hf := Resv.flen) ox0).ext (h5.trans h6)) (OwnF.rd (hf := Resv.flen) ot0)).mono ?_
  rintro e w7 ⟨rfl, h7⟩
  go_wp2_with fail
  go_ret
  exact ⟨rfl, (((((((hx0.trans h1).trans h2).trans h3).trans h4).trans h5).trans h6).trans h7)⟩

set_option maxHeartbeats 2000000 in
theorem l_FnExactFreeRate (a0 : List Resv) (v0 : Value) (a1 : Int) (a2 : Int) (a3 : Int) (a4 : Int) (w : World) (r0 : RdS Resv.rep w v0 a0) (_ : ∀ x ∈ a0, Resv.ok x) (_ : I64 a1) (_ : I64 a2) (_ : I64 a3) (_ : I64 a4) :
    Calls Try.prog 11 #[v0, .int .i64 a1, .int .i64 a2, .int .i64 a3, .int .i64 a4] w fun e w' => e = .returned (.bool true) ∧ Ext w w' := by
  go_enter Try.func11, Try.ntmps11
  have hx0 : Ext w w := (Ext.refl _)
  go_wp2_with fail
  refine (l_szReservationS a0 _ _ _ (r0.ext hx0) (by omega) (by omega)).mono ?_
  rintro e w1 ⟨rfl, h1⟩
  rcases Int.lt_or_le (1048576 - (a0.length : Int)) 0 with z0 | z0
  · rw [show szL (1048576) a0.length = -1 from if_pos z0]
    go_wp2_with fail
    go_ret
    exact ⟨rfl, (hx0.trans h1)⟩
  rw [show szL (1048576) a0.length = 1048576 - (a0.length : Int) from if_neg (by omega)]
  have y0 : a0.length ≤ 1048576 := by omega
  go_wp2_with fail
  refine (l_toReservationS a0 v0 _ (r0.ext (hx0.trans h1)) y0).mono ?_
  rintro e w2 ⟨us0, rfl, os0, h2⟩
  go_wp2_with fail
  refine (s_FreeRate a0 us0 a1 a2 a3 a4 _ ((OwnF.rd (hf := Resv.flen) os0).ext (Ext.refl _)) ).mono ?_
  rintro e w3 ⟨rfl, h3⟩
  go_wp2_with fail
  refine (l_toReservationS a0 v0 _ (r0.ext (((hx0.trans h1).trans h2).trans h3)) y0).mono ?_
  rintro e w4 ⟨x0, rfl, ox0, h4⟩
  go_wp2_with fail
  refine (i_FreeRate a0 x0 a1 a2 a3 a4 _ ((OwnF.rd (hf := Resv.flen) ox0).ext (Ext.refl _)) ).mono ?_
  rintro e w5 ⟨rfl, h5⟩
  go_wp2_with fail
  refine (l_toReservationS a0 v0 _ (r0.ext (((((hx0.trans h1).trans h2).trans h3).trans h4).trans h5)) y0).mono ?_
  rintro e w6 ⟨t0, rfl, ot0, h6⟩
  go_wp2_with fail
  refine (l_eqReservationS a0 a0 x0 t0 _ ((OwnF.rd (hf := Resv.flen) ox0).ext (h5.trans h6)) (OwnF.rd (hf := Resv.flen) ot0)).mono ?_
  rintro e w7 ⟨rfl, h7⟩
  go_wp2_with fail
  go_ret
  exact ⟨rfl, (((((((hx0.trans h1).trans h2).trans h3).trans h4).trans h5).trans h6).trans h7)⟩

end Go.Proofs.Ytmjpjapjdhgchaa
