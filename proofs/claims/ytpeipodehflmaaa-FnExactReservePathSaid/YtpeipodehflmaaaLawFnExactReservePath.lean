/- The law FnExactReservePath: for every input the call returns true, and each argument reads afterwards as it read before. No condition. -/
import Derived.Test.YtpeipodehflmaaaL33r
namespace Go.Proofs.Ytpeipodehflmaaa
open Go.ChangeShapes Go.WideShapes Go.ChangeAt Go.RowKit Go.Deep

set_option maxRecDepth 100000 in
theorem FnExactReservePath_lifted (os : Os) (started : os.Started) (H : Type) (enc : TypeId × Value → H) :
    ReturnsInHanded {} Try.checked os 12 .any (Rows.fnExactReservePathSpec.pre6 enc Try.prog Try.f12 Rows.fnExactReservePathRow.domain false) (Rows.fnExactReservePathSpec.post enc Try.prog Try.f12 false true false false) := by
  refine returnsInHanded_of_change (C := Try.checked) own_knob started (by kernel_rfl) Try.func12
    (ChangeSpec.witness6 (enc := enc) (C := Try.checked) false ⟨#[], #[.slice none 0 0, .int .i64 0, .agg #[.slice none 0 0], .int .i64 0, .int .i64 0, .int .i64 0, .int .i64 0], []⟩ 8 (by kernel_rfl) (by kernel_rfl) (by kernel_rfl) (by kernel_rfl)) ?_
  intro W base args ds gs before hval0 hW hcnd _
  have hval : ∀ (j : Nat) t v, Try.f12.params[j]? = some t → args[j]? = some v → Value.okWide Try.prog W .any base t v := hval0
  have hW' := hW
  obtain ⟨p, q, hA0, hV, rfl, hfz, hnd⟩ := hW
  have hA : DataW.TrodAll enc Try.prog W 0 (fun _ => true) true Try.f12.params.toList args.toList ds p := hA0
  rw [Try.params12] at hA hval
  obtain ⟨v0, vs0, d0, ds0, p0, q0, hargs, rfl, rfl, t0, r0⟩ := trodAll_cons hA
  obtain ⟨v1, vs1, d1, ds1, p1, q1, rfl, rfl, rfl, t1, r1⟩ := trodAll_cons r0
  obtain ⟨v2, vs2, d2, ds2, p2, q2, rfl, rfl, rfl, t2, r2⟩ := trodAll_cons r1
  obtain ⟨v3, vs3, d3, ds3, p3, q3, rfl, rfl, rfl, t3, r3⟩ := trodAll_cons r2
  obtain ⟨v4, vs4, d4, ds4, p4, q4, rfl, rfl, rfl, t4, r4⟩ := trodAll_cons r3
  obtain ⟨v5, vs5, d5, ds5, p5, q5, rfl, rfl, rfl, t5, r5⟩ := trodAll_cons r4
  obtain ⟨v6, vs6, d6, ds6, p6, q6, rfl, rfl, rfl, t6, r6⟩ := trodAll_cons r5
  obtain ⟨rfl, rfl, rfl⟩ := trodAll_nil r6
  obtain rfl : args = #[v0, v1, v2, v3, v4, v5, v6] := by cases args; simp_all
  obtain ⟨a0, b0, k0⟩ := arg_slice Try.underlying59 (hval 0 _ v0 rfl rfl) Resv.opensS t0
  obtain ⟨a1, rfl, k1⟩ := arg_int Try.underlying3 (hval 1 _ v1 rfl rfl) t1
  obtain ⟨c2, a2, rfl, b2, k2⟩ := arg_struct Try.underlying40 (hval 2 _ v2 rfl rfl) Pth.opens t2
  obtain ⟨v2h0, rfl, r2h0⟩ := b2
  obtain ⟨a3, rfl, k3⟩ := arg_int Try.underlying3 (hval 3 _ v3 rfl rfl) t3
  obtain ⟨a4, rfl, k4⟩ := arg_int Try.underlying3 (hval 4 _ v4 rfl rfl) t4
  obtain ⟨a5, rfl, k5⟩ := arg_int Try.underlying3 (hval 5 _ v5 rfl rfl) t5
  obtain ⟨a6, rfl, k6⟩ := arg_int Try.underlying3 (hval 6 _ v6 rfl rfl) t6
  refine (l_FnExactReservePath a0 v0 a1 a2 v2h0 a3 a4 a5 a6 W b0 k0 k1 r2h0 k2 k3 k4 k5 k6).mono fun e W' ⟨he, hx⟩ => ?_
  subst he
  refine ⟨_, rfl, post_law laid_out ?_ (by kernel_rfl) Try.underlying4 rfl ?_ hW' hx⟩
  · rw [Try.params12]
    intro t ht
    simp only [List.mem_cons, List.not_mem_nil, or_false] at ht
    rcases ht with rfl | rfl | rfl | rfl | rfl | rfl | rfl <;> exact ⟨by kernel_rfl, of_decide_eq_true (by kernel_rfl)⟩
  · rw [Try.params12]
    intro ds' h
    obtain ⟨x0, x1, x2, x3, x4, x5, x6, rfl⟩ := len7 (by simpa using h)
    rfl

theorem FnExactReservePath_holds : Rows.FnExactReservePathSaid :=
  OpenClaim.holds_of_wide 12 Try.f12 rfl rfl rfl rfl rfl rfl rfl ⟨rfl, rfl, rfl, rfl, rfl⟩ rfl rfl rfl rfl rfl (by kernel_rfl) Try.func12 (by kernel_rfl)
    (of_decide_eq_true (by kernel_rfl)) (by unfold Func.isWrapper; first | (rw [if_pos (by decide +kernel)]; kernel_rfl) | (rw [if_neg (by decide +kernel)]; exact ⟨rfl, rfl⟩))
    (fun os started H enc _ => FnExactReservePath_lifted os started H enc)
#print axioms FnExactReservePath_holds

end Go.Proofs.Ytpeipodehflmaaa
