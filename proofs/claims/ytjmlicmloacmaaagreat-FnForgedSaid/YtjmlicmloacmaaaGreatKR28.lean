/- What these laws need: FnForged, FnHopsPassed, FnReplies: Contracts of kinds of interfaces, of steps that are allowed, and of members of a set, program and reference. Contracts of simple, verified and usable paths, program and reference. -/
import Derived.Test.YtjmlicmloacmaaaGreatKR9
import Derived.Test.YtjmlicmloacmaaaGreatKR26
namespace Go.Proofs.YtjmlicmloacmaaaGreat
section
open Go.ChangeShapes Go.WideShapes Go.ChangeAt Go.RowKit Go.Deep
theorem and1 (m : Int) (h0 : 0 ≤ m) (h1 : m < 9223372036854775808) : bits .and .i64 m 1 = m % 2 := by
 obtain ⟨k, rfl⟩ := Int.eq_ofNat_of_zero_le h0
 have := and_nat k 1 (by omega) (by omega)
 have h2 : k &&& 1 = k % 2 := Nat.and_two_pow_sub_one_eq_mod k 1
 rw [h2] at this
 have e : ((1 : Nat) : Int) = 1 := rfl
 rw [e] at this
 rw [this]; omega
end
section
open Go.ChangeShapes Go.WideShapes Go.ChangeAt Go.RowKit Go.Deep
set_option maxHeartbeats 400000 in
theorem i_HopValidAt (h : Hop) (now : Int) (w : World) :
  Calls Tryz.prog 140 #[.agg #[.int .i64 h.asn, .int .i64 h.ing, .int .i64 h.eg, .int .i64 h.exp, .int .i64 h.mac], .int .i64 now] w fun e w' => e = .returned (.bool (decide (now ≤ h.exp))) ∧ Ext w w' := by
 go_enter Tryz.func140, Tryz.ntmps140

 go_wp2
 go_ret
 exact ⟨rfl, (Ext.refl _).alloc _⟩
end
end Go.Proofs.YtjmlicmloacmaaaGreat
