/- Comparisons of parts, program and laws. No condition. -/
import Derived.Test.YtikbeiafobnblaaKQ53
namespace Go.Proofs.Ytikbeiafobnblaa
open Go.ChangeShapes Go.WideShapes Go.ChangeAt Go.RowKit Go.Deep

def partEq (x y : Part) : Bool := (x.kind == y.kind) && (x.ts == y.ts) && (x.beta == y.beta) && decide (x.hops = y.hops)

set_option maxRecDepth 100000 in
set_option maxHeartbeats 400000 in
theorem i_equalHopLists (a : List Hop) (va : Value) (b : List Hop) (vb : Value) (w : World) (ha : RdS Hop.rep w va a) (hb : RdS Hop.rep w vb b) :
  Calls Try.prog 139 #[va, vb] w fun e w' => e = .returned (.bool (decide (a = b))) ∧ Ext w w' := by
 obtain ⟨oa, ca, rfl, hsa⟩ := ha.shape
 obtain ⟨ob, cb, rfl, hsb⟩ := hb.shape
 by_cases hne : a.length = b.length
 ·
  have Hne := Lib.hid hne
  have t1 : ((a.length : Int) != (b.length : Int)) = false := by simp [hne]
  clear hne
  go_enter Try.func139, Try.ntmps139
  go_wp2
  go_loopw [13] (fun i wr => ∃ (k : Nat), k ≤ a.length ∧ i = .int .i64 k ∧ a.take k = b.take k ∧ Ext w wr) (fun i _ => a.length - (intOf i).toNat)
  case atStart => exact ⟨0, Nat.zero_le _, rfl, rfl, Ext.refl _⟩
  case round =>
   obtain ⟨k, hk, rfl, htk, hx⟩ := hrel
   have Htk := Lib.hid htk; clear htk
   by_cases hlt : k < a.length
   ·
    have hlb : k < b.length := by rw [← Hne.out]; exact hlt
    obtain ⟨b1, off1, rfl, hc1⟩ := Hop.at (ha.ext hx) k hlt
    obtain ⟨b2, off2, rfl, hc2⟩ := Hop.at (hb.ext hx) k hlb
    go_wp2
    go_still_tail 8, (by kernel_rfl)
    go_wp2_with fail
    all_goals first
     | (go_ret; exact ⟨ret_bool (Eq.symm (decide_eq_false (by rintro rfl; contradiction))), hx.drew⟩)
     | exact ⟨⟨k + 1, by omega, by go_num, take_snoc2 Htk.out hlt hlb (Hop.ext' (by assumption) (by assumption) (by assumption) (by assumption) (by assumption)), hx.drew⟩, by simp [intOf]; omega⟩
   ·
    have hab : decide (a = b) = true := by
     have := Htk.out
     rw [List.take_of_length_le (by omega), List.take_of_length_le (by rw [← Hne.out]; omega)] at this
     simp [this]
    have Hab := Lib.hid hab; clear hab
    go_wp2
    go_ret
    exact ⟨ret_bool Hab.out.symm, hx⟩
 ·
  have t1 : ((a.length : Int) != (b.length : Int)) = true := by simp [bne_iff_ne]; omega
  have hab : decide (a = b) = false := by
   rw [decide_eq_false_iff_not]; rintro rfl; exact hne rfl
  have Hab := Lib.hid hab; clear hab
  clear hne
  go_enter Try.func139, Try.ntmps139
  go_wp2
  go_ret
  exact ⟨ret_bool Hab.out.symm, Ext.refl _⟩

set_option maxRecDepth 100000 in
set_option maxHeartbeats 2000000 in
theorem i_EqualParts (x y : Part) (va vb : Value) (w : World) (ra : RdS Hop.rep w va x.hops) (rb : RdS Hop.rep w vb y.hops) :
  Calls Try.prog 46 #[.agg #[.int .i64 x.kind, .int .i64 x.ts, .int .i64 x.beta, va], .agg #[.int .i64 y.kind, .int .i64 y.ts, .int .i64 y.beta, vb]] w fun e w' => e = .returned (.bool (partEq x y)) ∧ Ext w w' := by
 obtain ⟨oa, ca, rfl, _⟩ := ra.shape
 obtain ⟨ob, cb, rfl, _⟩ := rb.shape
 have hpe : partEq x y = ((x.kind == y.kind) && (x.ts == y.ts) && (x.beta == y.beta) && decide (x.hops = y.hops)) := rfl
 have HPE := Lib.hid hpe
 clear hpe
 have hx0 := ext2 w (.cells #[.int .i64 x.kind, .int .i64 x.ts, .int .i64 x.beta, .slice oa x.hops.length ca] 78) (.cells #[.int .i64 y.kind, .int .i64 y.ts, .int .i64 y.beta, .slice ob y.hops.length cb] 78)
 have HB0 := Lib.hid (al2 w (.cells #[.int .i64 x.kind, .int .i64 x.ts, .int .i64 x.beta, .slice oa x.hops.length ca] 78) (.cells #[.int .i64 y.kind, .int .i64 y.ts, .int .i64 y.beta, .slice ob y.hops.length cb] 78))
 go_enter Try.func46, Try.ntmps46
 cases e0 : (x.kind == y.kind)
 ·
  have cf1 := blk4 HB0.out.1
  have cf2 := blk4 HB0.out.2
  go_wp2_with fail
  go_ret
  exact ⟨ret_bool (by rw [HPE.out, e0]; rfl), hx0⟩
 ·
  cases e1 : (x.ts == y.ts)
  ·
   have cf3 := blk4 HB0.out.1
   have cf4 := blk4 HB0.out.2
   go_wp2_with fail
   go_ret
   exact ⟨ret_bool (by rw [HPE.out, e0, e1]; rfl), hx0⟩
  ·
   cases e2 : (x.beta == y.beta)
   ·
    have cf5 := blk4 HB0.out.1
    have cf6 := blk4 HB0.out.2
    go_wp2_with fail
    go_ret
    exact ⟨ret_bool (by rw [HPE.out, e0, e1, e2]; rfl), hx0⟩
   ·
    have cf7 := blk4 HB0.out.1
    have cf8 := blk4 HB0.out.2
    go_wp2_with fail
    refine (i_equalHopLists x.hops _ y.hops _ _ (ra.ext hx0) (rb.ext hx0)).mono ?_
    rintro e w1 ⟨rfl, hz1⟩
    try clear cf7
    try clear cf8
    have cf9 := blk4 (Ext.block hz1 HB0.out.1)
    have cf10 := blk4 (Ext.block hz1 HB0.out.2)
    go_wp2_with fail
    go_ret
    exact ⟨ret_bool (by rw [HPE.out, e0, e1, e2]; rfl), (hx0.trans hz1)⟩

set_option maxRecDepth 100000 in
set_option maxHeartbeats 2000000 in
theorem l_samePart (x y : Part) (va vb : Value) (w : World) (ra : RdS Hop.rep w va x.hops) (rb : RdS Hop.rep w vb y.hops) :
  Calls Try.prog 33 #[.agg #[.int .i64 x.kind, .int .i64 x.ts, .int .i64 x.beta, va], .agg #[.int .i64 y.kind, .int .i64 y.ts, .int .i64 y.beta, vb]] w fun e w' => e = .returned (.bool (partEq x y)) ∧ Ext w w' := by
 obtain ⟨oa, ca, rfl, _⟩ := ra.shape
 obtain ⟨ob, cb, rfl, _⟩ := rb.shape
 have hpe : partEq x y = ((x.kind == y.kind) && (x.ts == y.ts) && (x.beta == y.beta) && decide (x.hops = y.hops)) := rfl
 have HPE := Lib.hid hpe
 clear hpe
 have hx0 := ext2 w (.cells #[.int .i64 x.kind, .int .i64 x.ts, .int .i64 x.beta, .slice oa x.hops.length ca] 78) (.cells #[.int .i64 y.kind, .int .i64 y.ts, .int .i64 y.beta, .slice ob y.hops.length cb] 78)
 have HB0 := Lib.hid (al2 w (.cells #[.int .i64 x.kind, .int .i64 x.ts, .int .i64 x.beta, .slice oa x.hops.length ca] 78) (.cells #[.int .i64 y.kind, .int .i64 y.ts, .int .i64 y.beta, .slice ob y.hops.length cb] 78))
 go_enter Try.func33, Try.ntmps33
 cases e0 : (x.kind == y.kind)
 ·
  have cf1 := blk4 HB0.out.1
  have cf2 := blk4 HB0.out.2
  go_wp2_with fail
  go_ret
  exact ⟨ret_bool (by rw [HPE.out, e0]; rfl), hx0⟩
 ·
  cases e1 : (x.ts == y.ts)
  ·
   have cf3 := blk4 HB0.out.1
   have cf4 := blk4 HB0.out.2
   go_wp2_with fail
   go_ret
   exact ⟨ret_bool (by rw [HPE.out, e0, e1]; rfl), hx0⟩
  ·
   cases e2 : (x.beta == y.beta)
   ·
    have cf5 := blk4 HB0.out.1
    have cf6 := blk4 HB0.out.2
    go_wp2_with fail
    go_ret
    exact ⟨ret_bool (by rw [HPE.out, e0, e1, e2]; rfl), hx0⟩
   ·
    have cf7 := blk4 HB0.out.1
    have cf8 := blk4 HB0.out.2
    go_wp2_with fail
    refine (l_sameHops x.hops _ y.hops _ _ (ra.ext hx0) (rb.ext hx0)).mono ?_
    rintro e w1 ⟨rfl, hz1⟩
    try clear cf7
    try clear cf8
    have cf9 := blk4 (Ext.block hz1 HB0.out.1)
    have cf10 := blk4 (Ext.block hz1 HB0.out.2)
    go_wp2_with fail
    go_ret
    exact ⟨ret_bool (by rw [HPE.out, e0, e1, e2]; rfl), (hx0.trans hz1)⟩

end Go.Proofs.Ytikbeiafobnblaa
