/- What these laws need: FnFlips, FnReplies: Contracts of the ends of paths, program and reference. Contracts of new packets and replies, program and reference. -/
import Derived.Test.YtikbeiafobnblaaGreatKR18
import Derived.Test.YtikbeiafobnblaaGreatKR31
namespace Go.Proofs.YtikbeiafobnblaaGreat
section
open Go.ChangeShapes Go.WideShapes Go.ChangeAt Go.RowKit Go.Deep
def oppEnds (a b : Pth) : Bool := (ends a.parts).1 == (ends b.parts).2 && (ends a.parts).2 == (ends b.parts).1
set_option maxHeartbeats 1000000 in
theorem i_Endpoints (x : Pth) (v : Value) (w : World) (r : RdS Part.rep w v x.parts) (hl : x.size ≤ 1048576) :
  Calls Tryz.prog 56 #[.agg #[v]] w fun e w' => e = .returned (.tuple #[.int .i64 (ends x.parts).1, .int .i64 (ends x.parts).2]) ∧ Ext w w' := by
 obtain ⟨o, cap, rfl, hsm⟩ := r.shape
 have hx0 : Ext w (w.alloc (.cells #[.slice o x.parts.length cap] 26)) := (Ext.refl _).alloc _
 go_enter Tryz.func56, Tryz.ntmps56
 go_wp2_with fail
 refine (i_PathSteps x _ _ (r.ext hx0) hl).mono ?_
 rintro e w1 ⟨v1, rfl, o1, h1⟩
 have hx1 := hx0.trans h1
 obtain ⟨so, sc, rfl, hss⟩ := (OwnF.rd (hf := Step.flen) o1).shape
 by_cases hn0 : 0 < (pathSteps x.parts).length
 ·
  have he : ends x.parts = endsOf (pathSteps x.parts) := rfl
  have HE := Lib.hid he; clear he
  generalize pathSteps x.parts = out at *
  obtain ⟨g, cap2, hv2, _, _⟩ := o1.some_shape hn0
  cases hv2
  have q1 : ((out.length : Int) == 0) = false := by rw [beq_eq_false_iff_ne]; omega
  have q2 : (0 : Int) ≤ (out.length : Int) - 1 := by omega
  have q5 : (out.length : Int) - 1 < (out.length : Int) := by omega
  have q4 : ((out.length : Int) - 1).toNat = out.length - 1 := by omega
  have q6 : (0 : Int) < (out.length : Int) := by omega
  have q7 : IntKind.i64.wrap ((out.length : Int) - 1) = (out.length : Int) - 1 := IntWalk.i64_in _ (by omega)
  have hos := Step.own_at o1 (out.length - 1) (by omega)
  have hos0 := Step.own_at o1 0 hn0
  simp only [Nat.zero_mul, Nat.zero_add] at hos0
  go_wp2_with fail
  go_quiet (fail)
  go_wp2_with fail
  go_ret2
  rw [HE.out, endsOf_at hn0]
  exact ⟨rfl, hx1.drewN _⟩
 ·
  have he : ends x.parts = (-1, -1) := endsOf_nil (by omega)
  have HE := Lib.hid he; clear he
  generalize pathSteps x.parts = out at *
  have q1 : ((out.length : Int) == 0) = true := by rw [beq_iff_eq]; omega
  go_wp2_with fail
  go_ret2
  rw [HE.out]
  exact ⟨rfl, hx1⟩
end
section
open Go.ChangeShapes Go.WideShapes Go.ChangeAt Go.RowKit Go.Deep
theorem revPath_size (x : Pth) : (revPath x).size = x.size := by unfold Pth.size revPath; dsimp only; rw [revParts_len, revParts_hops]
end
end Go.Proofs.YtikbeiafobnblaaGreat
