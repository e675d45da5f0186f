/- The walk of the exact law over the encoding of revocations. No condition. -/
import Derived.Test.YtmjpjapjdhgchaaW38
namespace Go.Proofs.Ytmjpjapjdhgchaa
open Go.ChangeShapes Go.WideShapes Go.ChangeAt Go.RowKit Go.Deep

set_option maxHeartbeats 2000000 in
theorem l_FnExactEncodeRevocation (a0 : Revc) (w : World) (_ : a0.ok) :
    Calls Try.prog 13 #[.agg #[.int .i64 a0.asn, .int .i64 a0.iface, .int .i64 a0.till]] w fun e w' => e = .returned (.bool true) ∧ Ext w w' := by
  go_enter Try.func13, Try.ntmps13
  have hx0 : Ext w (w.alloc (.cells #[.int .i64 a0.asn, .int .i64 a0.iface, .int .i64 a0.till] 23)) := ((Ext.refl _).alloc _)
  have hB0 := Ext.block ((Ext.refl _)) (blk_new w (.cells #[.int .i64 a0.asn, .int .i64 a0.iface, .int .i64 a0.till] 23))
  have HB0 := Lib.hid hB0; clear hB0
  go_wp2_with fail
  refine (l_toRevocation a0 _).mono ?_
  rintro e w1 ⟨rfl, h1⟩
  have hc0_1 := blk3 (h1.block HB0.out)
  go_wp2_with fail
  refine (s_EncodeRevocation a0 _  ).mono ?_
  rintro e w2 ⟨sv, rfl, so, h2⟩
  have hc0_2 := blk3 ((h1.trans h2).block HB0.out)
  go_wp2_with fail
  refine (l_toRevocation a0 _).mono ?_
  rintro e w3 ⟨rfl, h3⟩
  have hc0_3 := blk3 (((h1.trans h2).trans h3).block HB0.out)
  go_wp2_with fail
  refine (i_EncodeRevocation a0 _  ).mono ?_
  rintro e w4 ⟨gv, rfl, go, h4⟩
  have hc0_4 := blk3 ((((h1.trans h2).trans h3).trans h4).block HB0.out)
  go_wp2_with fail
  refine (l_eqByteS (encRev a0) (encRev a0) gv sv _ ((OwnF.rd (hf := byteFlen) go).ext (Ext.refl _)) ((OwnF.rd (hf := byteFlen) so).ext (h3.trans h4))).mono ?_
  rintro e w5 ⟨rfl, h5⟩
  have hlen : (encRev a0).length ≤ 4294967296 := by exact encRev_len _
  have hc0_5 := blk3 (((((h1.trans h2).trans h3).trans h4).trans h5).block HB0.out)
  go_wp2_with fail
  refine (l_markByteS (encRev a0) gv 1 _ _ (go.ext h5) (by omega) (by omega)).mono ?_
  rintro e w6 ⟨rfl, om, mg⟩
  have hc0_6 := blk3 ((((((h1.trans h2).trans h3).trans h4).trans h5).grown mg (fun _ hk => Nat.le_trans ((h1.trans h2).trans h3).size (go.block _ hk).1)).block HB0.out)
  go_wp2_with fail
  refine (l_heldByteS _ gv 1 _ (OwnF.rd (hf := byteFlen) om) (by omega) (by omega)).mono ?_
  rintro e w7 ⟨rfl, h7⟩
  have hc0_7 := blk3 (((((((h1.trans h2).trans h3).trans h4).trans h5).grown mg (fun _ hk => Nat.le_trans ((h1.trans h2).trans h3).size (go.block _ hk).1)).trans h7).block HB0.out)
  go_wp2_with fail
  refine (l_toRevocation a0 _).mono ?_
  rintro e w8 ⟨rfl, h8⟩
  have hc0_8 := blk3 ((((((((h1.trans h2).trans h3).trans h4).trans h5).grown mg (fun _ hk => Nat.le_trans ((h1.trans h2).trans h3).size (go.block _ hk).1)).trans h7).trans h8).block HB0.out)
  go_wp2_with fail
  refine (i_EncodeRevocation a0 _  ).mono ?_
  rintro e w9 ⟨hv, rfl, ho, h9⟩
  have hc0_9 := blk3 (((((((((h1.trans h2).trans h3).trans h4).trans h5).grown mg (fun _ hk => Nat.le_trans ((h1.trans h2).trans h3).size (go.block _ hk).1)).trans h7).trans h8).trans h9).block HB0.out)
  go_wp2_with fail
  refine (l_eqByteS (encRev a0) (encRev a0) hv sv _ ((OwnF.rd (hf := byteFlen) ho).ext (Ext.refl _)) ((OwnF.rd (hf := byteFlen) so).ext ((((((h3.trans h4).trans h5).grown mg (fun _ hk => Nat.le_trans h3.size (go.block _ hk).1)).trans h7).trans h8).trans h9))).mono ?_
  rintro e w10 ⟨rfl, h10⟩
  have hc0_10 := blk3 ((((((((((h1.trans h2).trans h3).trans h4).trans h5).grown mg (fun _ hk => Nat.le_trans ((h1.trans h2).trans h3).size (go.block _ hk).1)).trans h7).trans h8).trans h9).trans h10).block HB0.out)
  go_wp2_with fail
  refine (l_heldByteS _ gv 1 _ ((OwnF.rd (hf := byteFlen) om).ext (((h7.trans h8).trans h9).trans h10)) (by omega) (by omega)).mono ?_
  rintro e w11 ⟨rfl, h11⟩
  go_wp2_with fail
  go_ret
  exact ⟨rfl, (((((((((((hx0.trans h1).trans h2).trans h3).trans h4).trans h5).grown mg (fun _ hk => Nat.le_trans (((hx0.trans h1).trans h2).trans h3).size (go.block _ hk).1)).trans h7).trans h8).trans h9).trans h10).trans h11)⟩

end Go.Proofs.Ytmjpjapjdhgchaa
