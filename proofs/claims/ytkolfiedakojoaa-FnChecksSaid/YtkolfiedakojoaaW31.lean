/- Contracts of the functions on revocations, program and reference, and of the laws over them. No condition but the bounds that each theorem names. -/
import Derived.Test.YtkolfiedakojoaaW01
import Derived.Test.YtkolfiedakojoaaTyRevocation
namespace Go.Proofs.Ytkolfiedakojoaa
open Go.ChangeShapes Go.WideShapes Go.ChangeAt Go.RowKit Go.Deep

def validRev (x : Revc) : Bool := inR x.asn 0 7 && inR x.iface 1 6 && inR x.till 0 1000000

set_option maxHeartbeats 400000 in
theorem i_ValidRevocation (x : Revc) (w : World) :
    Calls Try.prog 196 #[.agg #[.int .i64 x.asn, .int .i64 x.iface, .int .i64 x.till]] w fun e w' => e = .returned (.bool (validRev x)) ∧ Ext w w' := by
  go_enter Try.func196, Try.ntmps196
  go_wp2_with (go_at_call 112; refine (i_InRange _ _ _ _).mono ?_; rintro e w' ⟨rfl, rfl⟩)
  all_goals
    go_ret
    refine ⟨ret_bool ?_, (Ext.refl _).alloc _⟩
    simp [validRev, *]

set_option maxHeartbeats 400000 in
theorem s_ValidRevocation (x : Revc) (w : World) :
    Calls Try.prog 197 #[.agg #[.int .i64 x.asn, .int .i64 x.iface, .int .i64 x.till]] w fun e w' => e = .returned (.bool (validRev x)) ∧ Ext w w' := by
  go_enter Try.func197, Try.ntmps197
  go_wp2_with (go_at_call 114; refine (s_l1In _ _ _ _).mono ?_; rintro e w' ⟨rfl, rfl⟩)
  all_goals
    go_ret
    refine ⟨ret_bool ?_, (Ext.refl _).alloc _⟩
    simp [validRev, *]


end Go.Proofs.Ytkolfiedakojoaa
