/- The walk of the exact law over the adding of revocations. No condition. -/
import Derived.Test.YtjcojpnfoblpgaaW35
namespace Go.Proofs.Ytjcojpnfoblpgaa
open Go.ChangeShapes Go.WideShapes Go.ChangeAt Go.RowKit Go.Deep

set_option maxHeartbeats 2000000 in
theorem l_FnExactAddRevocation (a0 : List Revc) (v0 : Value) (a1 : Revc) (w : World) (r0 : RdS Revc.rep w v0 a0) (_ : ∀ x ∈ a0, Revc.ok x) (_ : a1.ok) :
    Calls Try.prog 6 #[v0, .agg #[.int .i64 a1.asn, .int .i64 a1.iface, .int .i64 a1.till]] w fun e w' => e = .returned (.bool true) ∧ Ext w w' := by
  go_enter Try.func6, Try.ntmps6
  have hx0 : Ext w (w.alloc (.cells #[.int .i64 a1.asn, .int .i64 a1.iface, .int .i64 a1.till] 41)) := ((Ext.refl _).alloc _)
  have hB1 := Ext.block ((Ext.refl _)) (blk_new w (.cells #[.int .i64 a1.asn, .int .i64 a1.iface, .int .i64 a1.till] 41))
  have HB1 := Lib.hid hB1; clear hB1
  go_wp2_with fail
  refine (l_szRevocationS a0 _ _ _ (r0.ext hx0) (by omega) (by omega)).mono ?_
  rintro e w1 ⟨rfl, h1⟩
  rcases Int.lt_or_le (1048576 - (a0.length : Int)) 0 with z0 | z0
  · rw [show szL (1048576) a0.length = -1 from if_pos z0]
    go_wp2_with fail
    go_ret
    exact ⟨rfl, (hx0.trans h1)⟩
  rw [show szL (1048576) a0.length = 1048576 - (a0.length : Int) from if_neg (by omega)]
  have y0 : a0.length ≤ 1048576 := by omega
  have hc1_1 := blk3 (h1.block HB1.out)
  go_wp2_with fail
  go_region_held3 (fun w' => w'.cell? ⟨w.heap.size, 0, none⟩ = some (.int .i64 a1.asn) ∧ w'.cell? ⟨w.heap.size, 1, none⟩ = some (.int .i64 a1.iface) ∧ w'.cell? ⟨w.heap.size, 2, none⟩ = some (.int .i64 a1.till))
    (first | exact ⟨((((Ext.refl _).drew.trans h2).trans h3).trans h4).cell hc1_1.1, ((((Ext.refl _).drew.trans h2).trans h3).trans h4).cell hc1_1.2.1, ((((Ext.refl _).drew.trans h2).trans h3).trans h4).cell hc1_1.2.2⟩ | exact ⟨(((Ext.refl _).drew.trans h2).trans h3).cell hc1_1.1, (((Ext.refl _).drew.trans h2).trans h3).cell hc1_1.2.1, (((Ext.refl _).drew.trans h2).trans h3).cell hc1_1.2.2⟩ | exact ⟨((Ext.refl _).drew.trans h2).cell hc1_1.1, ((Ext.refl _).drew.trans h2).cell hc1_1.2.1, ((Ext.refl _).drew.trans h2).cell hc1_1.2.2⟩ | go_keep)
    (first | (go_at_call 34; refine (l_toRevocationS a0 v0 _ (r0.ext (hx0.trans h1).drew) y0).mono ?_; rintro e w2 ⟨us0, rfl, os0, h2⟩) | (go_at_call 35; refine (l_toRevocation a1 _).mono ?_; rintro e w3 ⟨rfl, h3⟩) | (go_at_call 33; refine (s_AddRevocation a0 us0 a1 _ ((OwnF.rd (hf := Revc.flen) os0).ext h3) y0).mono ?_; rintro e w4 ⟨sv, rfl, so, h4⟩))
  have hc1_4 := blk3 ((((h1.trans ((Ext.refl _).drew.trans h2)).trans h3).trans h4).block HB1.out)
  go_wp2_with fail
  refine (l_toRevocationS a0 v0 _ (r0.ext ((((hx0.trans h1).trans ((Ext.refl _).drew.trans h2)).trans h3).trans h4)) y0).mono ?_
  rintro e w5 ⟨x0, rfl, ox0, h5⟩
  have hc1_5 := blk3 (((((h1.trans ((Ext.refl _).drew.trans h2)).trans h3).trans h4).trans h5).block HB1.out)
  go_wp2_with fail
  refine (l_toRevocation a1 _).mono ?_
  rintro e w6 ⟨rfl, h6⟩
  have hc1_6 := blk3 ((((((h1.trans ((Ext.refl _).drew.trans h2)).trans h3).trans h4).trans h5).trans h6).block HB1.out)
  go_wp2_with fail
  refine (i_AddRevocation a0 x0 a1 _ ((OwnF.rd (hf := Revc.flen) ox0).ext h6) y0).mono ?_
  rintro e w7 ⟨gv, rfl, go, h7⟩
  have hc1_7 := blk3 (((((((h1.trans ((Ext.refl _).drew.trans h2)).trans h3).trans h4).trans h5).trans h6).trans h7).block HB1.out)
  go_wp2_with fail
  refine (l_eqRevocationS (addRev a0 a1) (addRev a0 a1) gv sv _ ((OwnF.rd (hf := Revc.flen) go).ext (Ext.refl _)) (so.ext ((h5.trans h6).trans h7))).mono ?_
  rintro e w8 ⟨rfl, h8⟩
  have hc1_8 := blk3 ((((((((h1.trans ((Ext.refl _).drew.trans h2)).trans h3).trans h4).trans h5).trans h6).trans h7).trans h8).block HB1.out)
  go_wp2_with fail
  refine (l_toRevocationS a0 v0 _ (r0.ext ((((((((hx0.trans h1).trans ((Ext.refl _).drew.trans h2)).trans h3).trans h4).trans h5).trans h6).trans h7).trans h8)) y0).mono ?_
  rintro e w9 ⟨t0, rfl, ot0, h9⟩
  have hc1_9 := blk3 (((((((((h1.trans ((Ext.refl _).drew.trans h2)).trans h3).trans h4).trans h5).trans h6).trans h7).trans h8).trans h9).block HB1.out)
  go_wp2_with fail
  refine (l_eqRevocationS a0 a0 x0 t0 _ ((OwnF.rd (hf := Revc.flen) ox0).ext (((h6.trans h7).trans h8).trans h9)) (OwnF.rd (hf := Revc.flen) ot0)).mono ?_
  rintro e w10 ⟨rfl, h10⟩
  have hc1_10 := blk3 ((((((((((h1.trans ((Ext.refl _).drew.trans h2)).trans h3).trans h4).trans h5).trans h6).trans h7).trans h8).trans h9).trans h10).block HB1.out)
  go_wp2_with fail
  refine (l_markRevocationS a0 x0 (1) _ _ (ox0.ext ((((h6.trans h7).trans h8).trans h9).trans h10)) (by omega) (by omega)).mono ?_
  rintro e w11 ⟨rfl, _, m0⟩
  have go' := (go.ext ((h8.trans h9).trans h10)).kept m0 (fun k hk => Nat.lt_of_lt_of_le (ox0.block k hk).2 h6.size)
  clear go; have go := go'; clear go'
  have hlen : (addRev a0 a1).length ≤ 4294967296 := by exact addRev_len _ _ y0
  have hc1_11 := blk3 (((((((((((h1.trans ((Ext.refl _).drew.trans h2)).trans h3).trans h4).trans h5).trans h6).trans h7).trans h8).trans h9).trans h10).grown m0 (fun _ hk => Nat.le_trans (((h1.trans ((Ext.refl _).drew.trans h2)).trans h3).trans h4).size (ox0.block _ hk).1)).block HB1.out)
  go_wp2_with fail
  refine (l_eqRevocationS (addRev a0 a1) (addRev a0 a1) gv sv _ ((OwnF.rd (hf := Revc.flen) go).ext (Ext.refl _)) (so.ext ((((((h5.trans h6).trans h7).trans h8).trans h9).trans h10).grown m0 (fun _ hk => Nat.le_trans (Ext.refl _).size (ox0.block _ hk).1)))).mono ?_
  rintro e w12 ⟨rfl, h12⟩
  have hc1_12 := blk3 ((((((((((((h1.trans ((Ext.refl _).drew.trans h2)).trans h3).trans h4).trans h5).trans h6).trans h7).trans h8).trans h9).trans h10).grown m0 (fun _ hk => Nat.le_trans (((h1.trans ((Ext.refl _).drew.trans h2)).trans h3).trans h4).size (ox0.block _ hk).1)).trans h12).block HB1.out)
  go_wp2_with fail
  refine (l_markRevocationS (addRev a0 a1) gv 1 _ _ (go.ext h12) (by omega) (by omega)).mono ?_
  rintro e w13 ⟨rfl, om, mg⟩
  have hc1_13 := blk3 (((((((((((((h1.trans ((Ext.refl _).drew.trans h2)).trans h3).trans h4).trans h5).trans h6).trans h7).trans h8).trans h9).trans h10).grown m0 (fun _ hk => Nat.le_trans (((h1.trans ((Ext.refl _).drew.trans h2)).trans h3).trans h4).size (ox0.block _ hk).1)).trans h12).grown mg (fun _ hk => Nat.le_trans (((((h1.trans ((Ext.refl _).drew.trans h2)).trans h3).trans h4).trans h5).trans h6).size (go.block _ hk).1)).block HB1.out)
  go_wp2_with fail
  refine (l_heldRevocationS _ gv 1 _ (OwnF.rd (hf := Revc.flen) om) (by omega) (by omega)).mono ?_
  rintro e w14 ⟨rfl, h14⟩
  have hc1_14 := blk3 ((((((((((((((h1.trans ((Ext.refl _).drew.trans h2)).trans h3).trans h4).trans h5).trans h6).trans h7).trans h8).trans h9).trans h10).grown m0 (fun _ hk => Nat.le_trans (((h1.trans ((Ext.refl _).drew.trans h2)).trans h3).trans h4).size (ox0.block _ hk).1)).trans h12).grown mg (fun _ hk => Nat.le_trans (((((h1.trans ((Ext.refl _).drew.trans h2)).trans h3).trans h4).trans h5).trans h6).size (go.block _ hk).1)).trans h14).block HB1.out)
  go_wp2_with fail
  go_region_held3 (fun w' => w'.cell? ⟨w.heap.size, 0, none⟩ = some (.int .i64 a1.asn) ∧ w'.cell? ⟨w.heap.size, 1, none⟩ = some (.int .i64 a1.iface) ∧ w'.cell? ⟨w.heap.size, 2, none⟩ = some (.int .i64 a1.till))
    (first | exact ⟨((((Ext.refl _).drew.trans h15).trans h16).trans h17).cell hc1_14.1, ((((Ext.refl _).drew.trans h15).trans h16).trans h17).cell hc1_14.2.1, ((((Ext.refl _).drew.trans h15).trans h16).trans h17).cell hc1_14.2.2⟩ | exact ⟨(((Ext.refl _).drew.trans h15).trans h16).cell hc1_14.1, (((Ext.refl _).drew.trans h15).trans h16).cell hc1_14.2.1, (((Ext.refl _).drew.trans h15).trans h16).cell hc1_14.2.2⟩ | exact ⟨((Ext.refl _).drew.trans h15).cell hc1_14.1, ((Ext.refl _).drew.trans h15).cell hc1_14.2.1, ((Ext.refl _).drew.trans h15).cell hc1_14.2.2⟩ | go_keep)
    (first | (go_at_call 34; refine (l_toRevocationS a0 v0 _ (r0.ext ((((((((((((((hx0.trans h1).trans ((Ext.refl _).drew.trans h2)).trans h3).trans h4).trans h5).trans h6).trans h7).trans h8).trans h9).trans h10).grown m0 (fun _ hk => Nat.le_trans ((((hx0.trans h1).trans ((Ext.refl _).drew.trans h2)).trans h3).trans h4).size (ox0.block _ hk).1)).trans h12).grown mg (fun _ hk => Nat.le_trans ((((((hx0.trans h1).trans ((Ext.refl _).drew.trans h2)).trans h3).trans h4).trans h5).trans h6).size (go.block _ hk).1)).trans h14).drew) y0).mono ?_; rintro e w15 ⟨uk0, rfl, ok0, h15⟩) | (go_at_call 35; refine (l_toRevocation a1 _).mono ?_; rintro e w16 ⟨rfl, h16⟩) | (go_at_call 36; refine (i_AddRevocation a0 uk0 a1 _ ((OwnF.rd (hf := Revc.flen) ok0).ext h16) y0).mono ?_; rintro e w17 ⟨hv, rfl, ho, h17⟩))
  have hc1_17 := blk3 (((((((((((((((((h1.trans ((Ext.refl _).drew.trans h2)).trans h3).trans h4).trans h5).trans h6).trans h7).trans h8).trans h9).trans h10).grown m0 (fun _ hk => Nat.le_trans (((h1.trans ((Ext.refl _).drew.trans h2)).trans h3).trans h4).size (ox0.block _ hk).1)).trans h12).grown mg (fun _ hk => Nat.le_trans (((((h1.trans ((Ext.refl _).drew.trans h2)).trans h3).trans h4).trans h5).trans h6).size (go.block _ hk).1)).trans h14).trans ((Ext.refl _).drew.trans h15)).trans h16).trans h17).block HB1.out)
  go_wp2_with fail
  refine (l_eqRevocationS (addRev a0 a1) (addRev a0 a1) hv sv _ ((OwnF.rd (hf := Revc.flen) ho).ext (Ext.refl _)) (so.ext ((((((((((((h5.trans h6).trans h7).trans h8).trans h9).trans h10).grown m0 (fun _ hk => Nat.le_trans (Ext.refl _).size (ox0.block _ hk).1)).trans h12).grown mg (fun _ hk => Nat.le_trans (h5.trans h6).size (go.block _ hk).1)).trans h14).trans ((Ext.refl _).drew.trans h15)).trans h16).trans h17))).mono ?_
  rintro e w18 ⟨rfl, h18⟩
  have hc1_18 := blk3 ((((((((((((((((((h1.trans ((Ext.refl _).drew.trans h2)).trans h3).trans h4).trans h5).trans h6).trans h7).trans h8).trans h9).trans h10).grown m0 (fun _ hk => Nat.le_trans (((h1.trans ((Ext.refl _).drew.trans h2)).trans h3).trans h4).size (ox0.block _ hk).1)).trans h12).grown mg (fun _ hk => Nat.le_trans (((((h1.trans ((Ext.refl _).drew.trans h2)).trans h3).trans h4).trans h5).trans h6).size (go.block _ hk).1)).trans h14).trans ((Ext.refl _).drew.trans h15)).trans h16).trans h17).trans h18).block HB1.out)
  go_wp2_with fail
  refine (l_heldRevocationS _ gv 1 _ ((OwnF.rd (hf := Revc.flen) om).ext ((((h14.trans ((Ext.refl _).drew.trans h15)).trans h16).trans h17).trans h18)) (by omega) (by omega)).mono ?_
  rintro e w19 ⟨rfl, h19⟩
  go_wp2_with fail
  go_ret
  exact ⟨rfl, (((((((((((((((((((hx0.trans h1).trans ((Ext.refl _).drew.trans h2)).trans h3).trans h4).trans h5).trans h6).trans h7).trans h8).trans h9).trans h10).grown m0 (fun _ hk => Nat.le_trans ((((hx0.trans h1).trans ((Ext.refl _).drew.trans h2)).trans h3).trans h4).size (ox0.block _ hk).1)).trans h12).grown mg (fun _ hk => Nat.le_trans ((((((hx0.trans h1).trans ((Ext.refl _).drew.trans h2)).trans h3).trans h4).trans h5).trans h6).size (go.block _ hk).1)).trans h14).trans ((Ext.refl _).drew.trans h15)).trans h16).trans h17).trans h18).trans h19)⟩

end Go.Proofs.Ytjcojpnfoblpgaa
