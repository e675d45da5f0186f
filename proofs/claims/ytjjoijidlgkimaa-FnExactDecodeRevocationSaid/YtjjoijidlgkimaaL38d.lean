/- The walk of the exact law over decoding a revocation. No condition. -/
import Derived.Test.YtjjoijidlgkimaaW02r
import Derived.Test.YtjjoijidlgkimaaTyRevocation
namespace Go.Proofs.Ytjjoijidlgkimaa
open Go.ChangeShapes Go.WideShapes Go.ChangeAt Go.RowKit Go.Deep

set_option maxRecDepth 100000 in
set_option maxHeartbeats 3000000 in
theorem l_FnExactDecodeRevocation (b : List Int) (v : Value) (w : World) (hv : RdS Rep.byte w v b) (hok : ∀ x ∈ b, U8 x) :
    Calls Try.prog 5 #[v] w fun e w' => e = .returned (.bool true) ∧ Ext w w' := by
  obtain ⟨o, cap, rfl, hsm⟩ := hv.shape
  by_cases hbig : 1048576 < b.length
  · have hbg : (1048576 : Int) < (b.length : Int) := by omega
    go_enter Try.func5, Try.ntmps5
    go_wp2_with fail
    go_ret
    exact ⟨rfl, Ext.refl _⟩
  have hl : b.length ≤ 1048576 := by omega
  have hbg : ¬ (1048576 : Int) < (b.length : Int) := by omega
  clear hbig
  have HDR : Hid (∃ d, decRev b = d) := Lib.hid ⟨_, rfl⟩
  obtain ⟨d, hd⟩ := HDR.out
  clear HDR
  have HD := Lib.hid hd; clear hd
  obtain ⟨r, ok⟩ := d
  go_enter Try.func5, Try.ntmps5
  go_wp2_with fail
  refine (l_toByteS b _ _ hv hl).mono ?_
  rintro e w1 ⟨v1, rfl, o1, hz1⟩
  have r1 := bytes_rep o1
  clear o1
  obtain ⟨a1, c1, rfl, _⟩ := r1.shape
  go_wp2_with fail
  refine (s_DecodeRevocation b _ _ (r1.ext (Ext.refl _)) hok hl).mono ?_
  rintro e w2 ⟨rfl, hz2⟩
  rw [HD.out]
  have hB1 : Ext w2 (w2.alloc (.cells #[.int .i64 r.asn, .int .i64 r.iface, .int .i64 r.till] 38)) := (Ext.refl _).alloc _
  have HB1 := Lib.hid (blk_new w2 (.cells #[.int .i64 r.asn, .int .i64 r.iface, .int .i64 r.till] 38))
  have cf1 := blk3 HB1.out
  go_wp2_with fail
  refine (l_toByteS b _ _ (hv.ext ((hz1.trans hz2).trans hB1)) hl).mono ?_
  rintro e w3 ⟨v2, rfl, o2, hz3⟩
  have r2 := bytes_rep o2
  clear o2
  obtain ⟨a2, c2, rfl, _⟩ := r2.shape
  try clear cf1
  have cf2 := blk3 (Ext.block hz3 HB1.out)
  go_wp2_with fail
  refine (i_DecodeRevocation b _ _ (r2.ext (Ext.refl _)) hok hl).mono ?_
  rintro e w4 ⟨rfl, hz4⟩
  rw [HD.out]
  have hB2 : Ext w4 (w4.alloc (.cells #[.int .i64 r.asn, .int .i64 r.iface, .int .i64 r.till] 38)) := (Ext.refl _).alloc _
  have HB2 := Lib.hid (blk_new w4 (.cells #[.int .i64 r.asn, .int .i64 r.iface, .int .i64 r.till] 38))
  have hk : (ok != ok) = false := by simp
  try clear cf2
  have cf3 := blk3 (Ext.block ((hz3.trans hz4).trans hB2) HB1.out)
  have cf4 := blk3 HB2.out
  go_wp2_with fail
  refine (l_eqRevocation r r _).mono ?_
  rintro e w5 ⟨rfl, hz5⟩
  rw [show decide (r = r) = true from decide_eq_true rfl]
  try clear cf3
  try clear cf4
  have cf5 := blk3 (Ext.block (((hz3.trans hz4).trans hB2).trans hz5) HB1.out)
  have cf6 := blk3 (Ext.block hz5 HB2.out)
  go_wp2_with fail
  refine (l_toByteS b _ _ (hv.ext ((((((hz1.trans hz2).trans hB1).trans hz3).trans hz4).trans hB2).trans hz5)) hl).mono ?_
  rintro e w6 ⟨v3, rfl, o3, hz6⟩
  have r3 := bytes_rep o3
  clear o3
  obtain ⟨a3, c3, rfl, _⟩ := r3.shape
  try clear cf5
  try clear cf6
  have cf7 := blk3 (Ext.block ((((hz3.trans hz4).trans hB2).trans hz5).trans hz6) HB1.out)
  have cf8 := blk3 (Ext.block (hz5.trans hz6) HB2.out)
  go_wp2_with fail
  refine (l_eqByteS b b _ _ _ (r2.ext (((hz4.trans hB2).trans hz5).trans hz6)) (r3.ext (Ext.refl _))).mono ?_
  rintro e w7 ⟨rfl, hz7⟩
  rw [show decide (b = b) = true from decide_eq_true rfl]
  try clear cf7
  try clear cf8
  have cf9 := blk3 (Ext.block (((((hz3.trans hz4).trans hB2).trans hz5).trans hz6).trans hz7) HB1.out)
  have cf10 := blk3 (Ext.block ((hz5.trans hz6).trans hz7) HB2.out)
  go_wp2_with fail
  go_ret
  exact ⟨rfl, ((((((((hz1.trans hz2).trans hB1).trans hz3).trans hz4).trans hB2).trans hz5).trans hz6).trans hz7)⟩

end Go.Proofs.Ytjjoijidlgkimaa
