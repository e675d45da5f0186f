/- What these laws need: FnParts: The laws' own comparisons: what is the same compares as the same. -/
import Derived.Test.YtikbeiafobnblaaKQ19
import Derived.Test.YtikbeiafobnblaaKQ26
import Derived.Test.YtikbeiafobnblaaKQ51
namespace Go.Proofs.Ytikbeiafobnblaa
section
open Go.ChangeShapes Go.WideShapes Go.ChangeAt Go.RowKit Go.Deep
set_option maxRecDepth 100000 in
set_option maxHeartbeats 2000000 in
theorem l_samePartT (x : Part) (va vb : Value) (w : World) (ra : RdS Hop.rep w va x.hops) (rb : RdS Hop.rep w vb x.hops) :
  Calls Try.prog 33 #[.agg #[.int .i64 x.kind, .int .i64 x.ts, .int .i64 x.beta, va], .agg #[.int .i64 x.kind, .int .i64 x.ts, .int .i64 x.beta, vb]] w fun e w' => e = .returned (.bool true) ∧ Ext w w' := by
 obtain ⟨oa, ca, rfl, _⟩ := ra.shape
 obtain ⟨ob, cb, rfl, _⟩ := rb.shape
 have hx0 := ext2 w (.cells #[.int .i64 x.kind, .int .i64 x.ts, .int .i64 x.beta, .slice oa x.hops.length ca] 78) (.cells #[.int .i64 x.kind, .int .i64 x.ts, .int .i64 x.beta, .slice ob x.hops.length cb] 78)
 have HB0 := Lib.hid (al2 w (.cells #[.int .i64 x.kind, .int .i64 x.ts, .int .i64 x.beta, .slice oa x.hops.length ca] 78) (.cells #[.int .i64 x.kind, .int .i64 x.ts, .int .i64 x.beta, .slice ob x.hops.length cb] 78))
 go_enter Try.func33, Try.ntmps33
 have e1 : (x.kind == x.kind) = true := by simp
 have e2 : (x.ts == x.ts) = true := by simp
 have e3 : (x.beta == x.beta) = true := by simp
 have cf1 := blk4 HB0.out.1
 have cf2 := blk4 HB0.out.2
 go_wp2_with fail
 refine (l_sameHops x.hops _ x.hops _ _ (ra.ext hx0) (rb.ext hx0)).mono ?_
 rintro e w1 ⟨rfl, hz1⟩
 rw [decide_eq_true (rfl : x.hops = x.hops)]
 try clear cf1
 try clear cf2
 have cf3 := blk4 (Ext.block hz1 HB0.out.1)
 have cf4 := blk4 (Ext.block hz1 HB0.out.2)
 go_wp2_with fail
 go_ret
 exact ⟨rfl, (hx0.trans hz1)⟩
end
end Go.Proofs.Ytikbeiafobnblaa
