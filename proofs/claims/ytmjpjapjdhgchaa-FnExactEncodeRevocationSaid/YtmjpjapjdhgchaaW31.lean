/- Contracts of the functions on revocations, program and reference, and of the laws over them. No condition but the bounds that each theorem names. -/
import Derived.Test.YtmjpjapjdhgchaaW01
import Derived.Test.YtmjpjapjdhgchaaTyRevocation
namespace Go.Proofs.Ytmjpjapjdhgchaa
open Go.ChangeShapes Go.WideShapes Go.ChangeAt Go.RowKit Go.Deep

def validRev (x : Revc) : Bool := inR x.asn 0 7 && inR x.iface 1 6 && inR x.till 0 1000000

set_option maxHeartbeats 400000 in
theorem i_ValidRevocation (x : Revc) (w : World) :
    Calls Try.prog 17 #[.agg #[.int .i64 x.asn, .int .i64 x.iface, .int .i64 x.till]] w fun e w' => e = .returned (.bool (validRev x)) ∧ Ext w w' := by
  go_enter Try.func17, Try.ntmps17
  go_wp2_with (go_at_call 60; refine (i_InRange _ _ _ _).mono ?_; rintro e w' ⟨rfl, rfl⟩)
  all_goals
    go_ret
    refine ⟨ret_bool ?_, (Ext.refl _).alloc _⟩
    simp [validRev, *]

set_option maxHeartbeats 400000 in
theorem s_ValidRevocation (x : Revc) (w : World) :
    Calls Try.prog 15 #[.agg #[.int .i64 x.asn, .int .i64 x.iface, .int .i64 x.till]] w fun e w' => e = .returned (.bool (validRev x)) ∧ Ext w w' := by
  go_enter Try.func15, Try.ntmps15
  go_wp2_with (go_at_call 59; refine (s_l1In _ _ _ _).mono ?_; rintro e w' ⟨rfl, rfl⟩)
  all_goals
    go_ret
    refine ⟨ret_bool ?_, (Ext.refl _).alloc _⟩
    simp [validRev, *]

set_option maxHeartbeats 400000 in
theorem l_FnExactValidRevocation (x : Revc) (w : World) (_ : x.ok) :
    Calls Try.prog 3 #[.agg #[.int .i64 x.asn, .int .i64 x.iface, .int .i64 x.till]] w fun e w' => e = .returned (.bool true) ∧ Ext w w' := by
  go_enter Try.func3, Try.ntmps3
  go_wp2_with fail
  have hB := blk_new w (.cells #[.int .i64 x.asn, .int .i64 x.iface, .int .i64 x.till] 23)
  have HB := Lib.hid hB; clear hB
  refine (l_toRevocation x _).mono ?_
  rintro e w1 ⟨rfl, h1⟩
  go_wp2_with fail
  refine (s_ValidRevocation x _).mono ?_
  rintro e w2 ⟨rfl, h2⟩
  have hc := blk3 (h2.block (h1.block HB.out))
  go_wp2_with fail
  refine (l_toRevocation x _).mono ?_
  rintro e w3 ⟨rfl, h3⟩
  go_wp2_with fail
  refine (i_ValidRevocation x _).mono ?_
  rintro e w4 ⟨rfl, h4⟩
  go_wp2_with fail
  go_ret
  exact ⟨rfl, (((((Ext.refl _).alloc _).trans h1).trans h2).trans h3).trans h4⟩

end Go.Proofs.Ytmjpjapjdhgchaa
