/- Comparisons of parts, program and laws. No condition. -/
import Derived.Test.YtcpfmhgfaliemaaGreatKM17
namespace Go.Proofs.YtcpfmhgfaliemaaGreat
open Go.ChangeShapes Go.WideShapes Go.ChangeAt Go.RowKit Go.Deep

def partEq (x y : Part) : Bool := (x.kind == y.kind) && (x.ts == y.ts) && (x.beta == y.beta) && decide (x.hops = y.hops)



set_option maxRecDepth 100000 in
set_option maxHeartbeats 2000000 in
theorem l_samePart (x y : Part) (va vb : Value) (w : World) (ra : RdS Hop.rep w va x.hops) (rb : RdS Hop.rep w vb y.hops) :
  Calls Tryz.prog 172 #[.agg #[.int .i64 x.kind, .int .i64 x.ts, .int .i64 x.beta, va], .agg #[.int .i64 y.kind, .int .i64 y.ts, .int .i64 y.beta, vb]] w fun e w' => e = .returned (.bool (partEq x y)) ∧ Ext w w' := by
 obtain ⟨oa, ca, rfl, _⟩ := ra.shape
 obtain ⟨ob, cb, rfl, _⟩ := rb.shape
 have hpe : partEq x y = ((x.kind == y.kind) && (x.ts == y.ts) && (x.beta == y.beta) && decide (x.hops = y.hops)) := rfl
 have HPE := Lib.hid hpe
 clear hpe
 have hx0 := ext2 w (.cells #[.int .i64 x.kind, .int .i64 x.ts, .int .i64 x.beta, .slice oa x.hops.length ca] 74) (.cells #[.int .i64 y.kind, .int .i64 y.ts, .int .i64 y.beta, .slice ob y.hops.length cb] 74)
 have HB0 := Lib.hid (al2 w (.cells #[.int .i64 x.kind, .int .i64 x.ts, .int .i64 x.beta, .slice oa x.hops.length ca] 74) (.cells #[.int .i64 y.kind, .int .i64 y.ts, .int .i64 y.beta, .slice ob y.hops.length cb] 74))
 go_enter Tryz.func172, Tryz.ntmps172
 cases e0 : (x.kind == y.kind)
 ·
  have cf1 := blk4 HB0.out.1
  have cf2 := blk4 HB0.out.2
  go_wp2_with fail
  go_ret
  exact ⟨ret_bool (by rw [HPE.out, e0]; rfl), hx0⟩
 ·
  cases e1 : (x.ts == y.ts)
  ·
   have cf3 := blk4 HB0.out.1
   have cf4 := blk4 HB0.out.2
   go_wp2_with fail
   go_ret
   exact ⟨ret_bool (by rw [HPE.out, e0, e1]; rfl), hx0⟩
  ·
   cases e2 : (x.beta == y.beta)
   ·
    have cf5 := blk4 HB0.out.1
    have cf6 := blk4 HB0.out.2
    go_wp2_with fail
    go_ret
    exact ⟨ret_bool (by rw [HPE.out, e0, e1, e2]; rfl), hx0⟩
   ·
    have cf7 := blk4 HB0.out.1
    have cf8 := blk4 HB0.out.2
    go_wp2_with fail
    refine (l_sameHops x.hops _ y.hops _ _ (ra.ext hx0) (rb.ext hx0)).mono ?_
    rintro e w1 ⟨rfl, hz1⟩
    try clear cf7
    try clear cf8
    have cf9 := blk4 (Ext.block hz1 HB0.out.1)
    have cf10 := blk4 (Ext.block hz1 HB0.out.2)
    go_wp2_with fail
    go_ret
    exact ⟨ret_bool (by rw [HPE.out, e0, e1, e2]; rfl), (hx0.trans hz1)⟩

end Go.Proofs.YtcpfmhgfaliemaaGreat
