/- The walks of the exact laws over the admission of reservations. No condition. -/
import Derived.Test.YtjcojpnfoblpgaaW34
namespace Go.Proofs.Ytjcojpnfoblpgaa
open Go.ChangeShapes Go.WideShapes Go.ChangeAt Go.RowKit Go.Deep
theorem admit_len (l : List Resv) (x : Resv) (c now : Int) (h : l.length ≤ 1048576) : (admit l x c now).1.length ≤ 4294967296 := by
  unfold admit
  split
  · simp; omega
  · have := without_le x l
    simp; omega

set_option maxHeartbeats 2000000 in
theorem l_FnExactAdmit (a0 : List Resv) (v0 : Value) (a1 : Resv) (a2 : Int) (a3 : Int) (w : World) (r0 : RdS Resv.rep w v0 a0) (_ : ∀ x ∈ a0, Resv.ok x) (_ : a1.ok) (_ : I64 a2) (_ : I64 a3) :
    Calls Try.prog 10 #[v0, .agg #[.int .i64 a1.id, .int .i64 a1.asn, .int .i64 a1.iface, .int .i64 a1.rate, .int .i64 a1.till], .int .i64 a2, .int .i64 a3] w fun e w' => e = .returned (.bool true) ∧ Ext w w' := by
  go_enter Try.func10, Try.ntmps10
  have hx0 : Ext w (w.alloc (.cells #[.int .i64 a1.id, .int .i64 a1.asn, .int .i64 a1.iface, .int .i64 a1.rate, .int .i64 a1.till] 72)) := ((Ext.refl _).alloc _)
  have hB1 := Ext.block ((Ext.refl _)) (blk_new w (.cells #[.int .i64 a1.id, .int .i64 a1.asn, .int .i64 a1.iface, .int .i64 a1.rate, .int .i64 a1.till] 72))
  have HB1 := Lib.hid hB1; clear hB1
  go_wp2_with fail
  refine (l_szReservationS a0 _ _ _ (r0.ext hx0) (by omega) (by omega)).mono ?_
  rintro e w1 ⟨rfl, h1⟩
  rcases Int.lt_or_le (1048576 - (a0.length : Int)) 0 with z0 | z0
  · rw [show szL (1048576) a0.length = -1 from if_pos z0]
    go_wp2_with fail
    go_ret
    exact ⟨rfl, (hx0.trans h1)⟩
  rw [show szL (1048576) a0.length = 1048576 - (a0.length : Int) from if_neg (by omega)]
  have y0 : a0.length ≤ 1048576 := by omega
  have hc1_1 := blk5 (h1.block HB1.out)
  go_wp2_with fail
  go_region_held3 (fun w' => w'.cell? ⟨w.heap.size, 0, none⟩ = some (.int .i64 a1.id) ∧ w'.cell? ⟨w.heap.size, 1, none⟩ = some (.int .i64 a1.asn) ∧ w'.cell? ⟨w.heap.size, 2, none⟩ = some (.int .i64 a1.iface) ∧ w'.cell? ⟨w.heap.size, 3, none⟩ = some (.int .i64 a1.rate) ∧ w'.cell? ⟨w.heap.size, 4, none⟩ = some (.int .i64 a1.till))
    (first | exact ⟨((((Ext.refl _).drew.trans h2).trans h3).trans h4).cell hc1_1.1, ((((Ext.refl _).drew.trans h2).trans h3).trans h4).cell hc1_1.2.1, ((((Ext.refl _).drew.trans h2).trans h3).trans h4).cell hc1_1.2.2.1, ((((Ext.refl _).drew.trans h2).trans h3).trans h4).cell hc1_1.2.2.2.1, ((((Ext.refl _).drew.trans h2).trans h3).trans h4).cell hc1_1.2.2.2.2⟩ | exact ⟨(((Ext.refl _).drew.trans h2).trans h3).cell hc1_1.1, (((Ext.refl _).drew.trans h2).trans h3).cell hc1_1.2.1, (((Ext.refl _).drew.trans h2).trans h3).cell hc1_1.2.2.1, (((Ext.refl _).drew.trans h2).trans h3).cell hc1_1.2.2.2.1, (((Ext.refl _).drew.trans h2).trans h3).cell hc1_1.2.2.2.2⟩ | exact ⟨((Ext.refl _).drew.trans h2).cell hc1_1.1, ((Ext.refl _).drew.trans h2).cell hc1_1.2.1, ((Ext.refl _).drew.trans h2).cell hc1_1.2.2.1, ((Ext.refl _).drew.trans h2).cell hc1_1.2.2.2.1, ((Ext.refl _).drew.trans h2).cell hc1_1.2.2.2.2⟩ | go_keep)
    (first | (go_at_call 17; refine (l_toReservationS a0 v0 _ (r0.ext (hx0.trans h1).drew) y0).mono ?_; rintro e w2 ⟨us0, rfl, os0, h2⟩) | (go_at_call 56; refine (l_toReservation a1 _).mono ?_; rintro e w3 ⟨rfl, h3⟩) | (go_at_call 55; refine (s_Admit a0 us0 a1 a2 a3 _ ((OwnF.rd (hf := Resv.flen) os0).ext h3) y0).mono ?_; rintro e w4 ⟨sv, rfl, so, h4⟩))
  have hc1_4 := blk5 ((((h1.trans ((Ext.refl _).drew.trans h2)).trans h3).trans h4).block HB1.out)
  go_wp2_with fail
  refine (l_toReservationS a0 v0 _ (r0.ext ((((hx0.trans h1).trans ((Ext.refl _).drew.trans h2)).trans h3).trans h4)) y0).mono ?_
  rintro e w5 ⟨x0, rfl, ox0, h5⟩
  have hc1_5 := blk5 (((((h1.trans ((Ext.refl _).drew.trans h2)).trans h3).trans h4).trans h5).block HB1.out)
  go_wp2_with fail
  refine (l_toReservation a1 _).mono ?_
  rintro e w6 ⟨rfl, h6⟩
  have hc1_6 := blk5 ((((((h1.trans ((Ext.refl _).drew.trans h2)).trans h3).trans h4).trans h5).trans h6).block HB1.out)
  go_wp2_with fail
  refine (i_Admit a0 x0 a1 a2 a3 _ ((OwnF.rd (hf := Resv.flen) ox0).ext h6) y0).mono ?_
  rintro e w7 ⟨gv, rfl, go, h7⟩
  have hc1_7 := blk5 (((((((h1.trans ((Ext.refl _).drew.trans h2)).trans h3).trans h4).trans h5).trans h6).trans h7).block HB1.out)
  go_wp2_with fail
  refine (l_eqReservationS (admit a0 a1 a2 a3).1 (admit a0 a1 a2 a3).1 gv sv _ ((OwnF.rd (hf := Resv.flen) go).ext (Ext.refl _)) ((OwnF.rd (hf := Resv.flen) so).ext ((h5.trans h6).trans h7))).mono ?_
  rintro e w8 ⟨rfl, h8⟩
  have hc1_8 := blk5 ((((((((h1.trans ((Ext.refl _).drew.trans h2)).trans h3).trans h4).trans h5).trans h6).trans h7).trans h8).block HB1.out)
  go_wp2_with fail
  refine (l_toReservationS a0 v0 _ (r0.ext ((((((((hx0.trans h1).trans ((Ext.refl _).drew.trans h2)).trans h3).trans h4).trans h5).trans h6).trans h7).trans h8)) y0).mono ?_
  rintro e w9 ⟨t0, rfl, ot0, h9⟩
  have hc1_9 := blk5 (((((((((h1.trans ((Ext.refl _).drew.trans h2)).trans h3).trans h4).trans h5).trans h6).trans h7).trans h8).trans h9).block HB1.out)
  go_wp2_with fail
  refine (l_eqReservationS a0 a0 x0 t0 _ ((OwnF.rd (hf := Resv.flen) ox0).ext (((h6.trans h7).trans h8).trans h9)) (OwnF.rd (hf := Resv.flen) ot0)).mono ?_
  rintro e w10 ⟨rfl, h10⟩
  have hc1_10 := blk5 ((((((((((h1.trans ((Ext.refl _).drew.trans h2)).trans h3).trans h4).trans h5).trans h6).trans h7).trans h8).trans h9).trans h10).block HB1.out)
  go_wp2_with fail
  refine (l_markReservationS a0 x0 (1) _ _ (ox0.ext ((((h6.trans h7).trans h8).trans h9).trans h10)) (by omega) (by omega)).mono ?_
  rintro e w11 ⟨rfl, _, m0⟩
  have go' := (go.ext ((h8.trans h9).trans h10)).kept m0 (fun k hk => Nat.lt_of_lt_of_le (ox0.block k hk).2 h6.size)
  clear go; have go := go'; clear go'
  have hlen : (admit a0 a1 a2 a3).1.length ≤ 4294967296 := by exact admit_len _ _ _ _ y0
  have hc1_11 := blk5 (((((((((((h1.trans ((Ext.refl _).drew.trans h2)).trans h3).trans h4).trans h5).trans h6).trans h7).trans h8).trans h9).trans h10).grown m0 (fun _ hk => Nat.le_trans (((h1.trans ((Ext.refl _).drew.trans h2)).trans h3).trans h4).size (ox0.block _ hk).1)).block HB1.out)
  go_wp2_with fail
  refine (l_eqReservationS (admit a0 a1 a2 a3).1 (admit a0 a1 a2 a3).1 gv sv _ ((OwnF.rd (hf := Resv.flen) go).ext (Ext.refl _)) ((OwnF.rd (hf := Resv.flen) so).ext ((((((h5.trans h6).trans h7).trans h8).trans h9).trans h10).grown m0 (fun _ hk => Nat.le_trans (Ext.refl _).size (ox0.block _ hk).1)))).mono ?_
  rintro e w12 ⟨rfl, h12⟩
  have hc1_12 := blk5 ((((((((((((h1.trans ((Ext.refl _).drew.trans h2)).trans h3).trans h4).trans h5).trans h6).trans h7).trans h8).trans h9).trans h10).grown m0 (fun _ hk => Nat.le_trans (((h1.trans ((Ext.refl _).drew.trans h2)).trans h3).trans h4).size (ox0.block _ hk).1)).trans h12).block HB1.out)
  go_wp2_with fail
  refine (l_markReservationS (admit a0 a1 a2 a3).1 gv 1 _ _ (go.ext h12) (by omega) (by omega)).mono ?_
  rintro e w13 ⟨rfl, om, mg⟩
  have hc1_13 := blk5 (((((((((((((h1.trans ((Ext.refl _).drew.trans h2)).trans h3).trans h4).trans h5).trans h6).trans h7).trans h8).trans h9).trans h10).grown m0 (fun _ hk => Nat.le_trans (((h1.trans ((Ext.refl _).drew.trans h2)).trans h3).trans h4).size (ox0.block _ hk).1)).trans h12).grown mg (fun _ hk => Nat.le_trans (((((h1.trans ((Ext.refl _).drew.trans h2)).trans h3).trans h4).trans h5).trans h6).size (go.block _ hk).1)).block HB1.out)
  go_wp2_with fail
  refine (l_heldReservationS _ gv 1 _ (OwnF.rd (hf := Resv.flen) om) (by omega) (by omega)).mono ?_
  rintro e w14 ⟨rfl, h14⟩
  have hc1_14 := blk5 ((((((((((((((h1.trans ((Ext.refl _).drew.trans h2)).trans h3).trans h4).trans h5).trans h6).trans h7).trans h8).trans h9).trans h10).grown m0 (fun _ hk => Nat.le_trans (((h1.trans ((Ext.refl _).drew.trans h2)).trans h3).trans h4).size (ox0.block _ hk).1)).trans h12).grown mg (fun _ hk => Nat.le_trans (((((h1.trans ((Ext.refl _).drew.trans h2)).trans h3).trans h4).trans h5).trans h6).size (go.block _ hk).1)).trans h14).block HB1.out)
  go_wp2_with fail
  go_region_held3 (fun w' => w'.cell? ⟨w.heap.size, 0, none⟩ = some (.int .i64 a1.id) ∧ w'.cell? ⟨w.heap.size, 1, none⟩ = some (.int .i64 a1.asn) ∧ w'.cell? ⟨w.heap.size, 2, none⟩ = some (.int .i64 a1.iface) ∧ w'.cell? ⟨w.heap.size, 3, none⟩ = some (.int .i64 a1.rate) ∧ w'.cell? ⟨w.heap.size, 4, none⟩ = some (.int .i64 a1.till))
    (first | exact ⟨((((Ext.refl _).drew.trans h15).trans h16).trans h17).cell hc1_14.1, ((((Ext.refl _).drew.trans h15).trans h16).trans h17).cell hc1_14.2.1, ((((Ext.refl _).drew.trans h15).trans h16).trans h17).cell hc1_14.2.2.1, ((((Ext.refl _).drew.trans h15).trans h16).trans h17).cell hc1_14.2.2.2.1, ((((Ext.refl _).drew.trans h15).trans h16).trans h17).cell hc1_14.2.2.2.2⟩ | exact ⟨(((Ext.refl _).drew.trans h15).trans h16).cell hc1_14.1, (((Ext.refl _).drew.trans h15).trans h16).cell hc1_14.2.1, (((Ext.refl _).drew.trans h15).trans h16).cell hc1_14.2.2.1, (((Ext.refl _).drew.trans h15).trans h16).cell hc1_14.2.2.2.1, (((Ext.refl _).drew.trans h15).trans h16).cell hc1_14.2.2.2.2⟩ | exact ⟨((Ext.refl _).drew.trans h15).cell hc1_14.1, ((Ext.refl _).drew.trans h15).cell hc1_14.2.1, ((Ext.refl _).drew.trans h15).cell hc1_14.2.2.1, ((Ext.refl _).drew.trans h15).cell hc1_14.2.2.2.1, ((Ext.refl _).drew.trans h15).cell hc1_14.2.2.2.2⟩ | go_keep)
    (first | (go_at_call 17; refine (l_toReservationS a0 v0 _ (r0.ext ((((((((((((((hx0.trans h1).trans ((Ext.refl _).drew.trans h2)).trans h3).trans h4).trans h5).trans h6).trans h7).trans h8).trans h9).trans h10).grown m0 (fun _ hk => Nat.le_trans ((((hx0.trans h1).trans ((Ext.refl _).drew.trans h2)).trans h3).trans h4).size (ox0.block _ hk).1)).trans h12).grown mg (fun _ hk => Nat.le_trans ((((((hx0.trans h1).trans ((Ext.refl _).drew.trans h2)).trans h3).trans h4).trans h5).trans h6).size (go.block _ hk).1)).trans h14).drew) y0).mono ?_; rintro e w15 ⟨uk0, rfl, ok0, h15⟩) | (go_at_call 56; refine (l_toReservation a1 _).mono ?_; rintro e w16 ⟨rfl, h16⟩) | (go_at_call 57; refine (i_Admit a0 uk0 a1 a2 a3 _ ((OwnF.rd (hf := Resv.flen) ok0).ext h16) y0).mono ?_; rintro e w17 ⟨hv, rfl, ho, h17⟩))
  have hc1_17 := blk5 (((((((((((((((((h1.trans ((Ext.refl _).drew.trans h2)).trans h3).trans h4).trans h5).trans h6).trans h7).trans h8).trans h9).trans h10).grown m0 (fun _ hk => Nat.le_trans (((h1.trans ((Ext.refl _).drew.trans h2)).trans h3).trans h4).size (ox0.block _ hk).1)).trans h12).grown mg (fun _ hk => Nat.le_trans (((((h1.trans ((Ext.refl _).drew.trans h2)).trans h3).trans h4).trans h5).trans h6).size (go.block _ hk).1)).trans h14).trans ((Ext.refl _).drew.trans h15)).trans h16).trans h17).block HB1.out)
  go_wp2_with fail
  refine (l_eqReservationS (admit a0 a1 a2 a3).1 (admit a0 a1 a2 a3).1 hv sv _ ((OwnF.rd (hf := Resv.flen) ho).ext (Ext.refl _)) ((OwnF.rd (hf := Resv.flen) so).ext ((((((((((((h5.trans h6).trans h7).trans h8).trans h9).trans h10).grown m0 (fun _ hk => Nat.le_trans (Ext.refl _).size (ox0.block _ hk).1)).trans h12).grown mg (fun _ hk => Nat.le_trans (h5.trans h6).size (go.block _ hk).1)).trans h14).trans ((Ext.refl _).drew.trans h15)).trans h16).trans h17))).mono ?_
  rintro e w18 ⟨rfl, h18⟩
  have hc1_18 := blk5 ((((((((((((((((((h1.trans ((Ext.refl _).drew.trans h2)).trans h3).trans h4).trans h5).trans h6).trans h7).trans h8).trans h9).trans h10).grown m0 (fun _ hk => Nat.le_trans (((h1.trans ((Ext.refl _).drew.trans h2)).trans h3).trans h4).size (ox0.block _ hk).1)).trans h12).grown mg (fun _ hk => Nat.le_trans (((((h1.trans ((Ext.refl _).drew.trans h2)).trans h3).trans h4).trans h5).trans h6).size (go.block _ hk).1)).trans h14).trans ((Ext.refl _).drew.trans h15)).trans h16).trans h17).trans h18).block HB1.out)
  go_wp2_with fail
  refine (l_heldReservationS _ gv 1 _ ((OwnF.rd (hf := Resv.flen) om).ext ((((h14.trans ((Ext.refl _).drew.trans h15)).trans h16).trans h17).trans h18)) (by omega) (by omega)).mono ?_
  rintro e w19 ⟨rfl, h19⟩
  go_wp2_with fail
  go_ret
  exact ⟨rfl, (((((((((((((((((((hx0.trans h1).trans ((Ext.refl _).drew.trans h2)).trans h3).trans h4).trans h5).trans h6).trans h7).trans h8).trans h9).trans h10).grown m0 (fun _ hk => Nat.le_trans ((((hx0.trans h1).trans ((Ext.refl _).drew.trans h2)).trans h3).trans h4).size (ox0.block _ hk).1)).trans h12).grown mg (fun _ hk => Nat.le_trans ((((((hx0.trans h1).trans ((Ext.refl _).drew.trans h2)).trans h3).trans h4).trans h5).trans h6).size (go.block _ hk).1)).trans h14).trans ((Ext.refl _).drew.trans h15)).trans h16).trans h17).trans h18).trans h19)⟩

end Go.Proofs.Ytjcojpnfoblpgaa
