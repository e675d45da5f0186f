/- The law FnExactPathRate: for every input the call returns true, and each argument reads afterwards as it read before. No condition. -/
import Derived.Test.YtpeipodehflmaaaL33e
namespace Go.Proofs.Ytpeipodehflmaaa
open Go.ChangeShapes Go.WideShapes Go.ChangeAt Go.RowKit Go.Deep

set_option maxRecDepth 100000 in
theorem FnExactPathRate_lifted (os : Os) (started : os.Started) (H : Type) (enc : TypeId × Value → H) :
    ReturnsInHanded {} Try.checked os 7 .any (Rows.fnExactPathRateSpec.pre6 enc Try.prog Try.f7 Rows.fnExactPathRateRow.domain false) (Rows.fnExactPathRateSpec.post enc Try.prog Try.f7 false true false false) := by
  refine returnsInHanded_of_change (C := Try.checked) own_knob started (by kernel_rfl) Try.func7
    (ChangeSpec.witness6 (enc := enc) (C := Try.checked) false ⟨#[], #[.slice none 0 0, .int .i64 0, .agg #[.slice none 0 0], .int .i64 0], []⟩ 8 (by kernel_rfl) (by kernel_rfl) (by kernel_rfl) (by kernel_rfl)) ?_
  intro W base args ds gs before hval0 hW hcnd _
  have hval : ∀ (j : Nat) t v, Try.f7.params[j]? = some t → args[j]? = some v → Value.okWide Try.prog W .any base t v := hval0
  have hW' := hW
  obtain ⟨p, q, hA0, hV, rfl, hfz, hnd⟩ := hW
  have hA : DataW.TrodAll enc Try.prog W 0 (fun _ => true) true Try.f7.params.toList args.toList ds p := hA0
  rw [Try.params7] at hA hval
  obtain ⟨v0, vs0, d0, ds0, p0, q0, hargs, rfl, rfl, t0, r0⟩ := trodAll_cons hA
  obtain ⟨v1, vs1, d1, ds1, p1, q1, rfl, rfl, rfl, t1, r1⟩ := trodAll_cons r0
  obtain ⟨v2, vs2, d2, ds2, p2, q2, rfl, rfl, rfl, t2, r2⟩ := trodAll_cons r1
  obtain ⟨v3, vs3, d3, ds3, p3, q3, rfl, rfl, rfl, t3, r3⟩ := trodAll_cons r2
  obtain ⟨rfl, rfl, rfl⟩ := trodAll_nil r3
  obtain rfl : args = #[v0, v1, v2, v3] := by cases args; simp_all
  obtain ⟨a0, b0, k0⟩ := arg_slice Try.underlying59 (hval 0 _ v0 rfl rfl) Resv.opensS t0
  obtain ⟨a1, rfl, k1⟩ := arg_int Try.underlying3 (hval 1 _ v1 rfl rfl) t1
  obtain ⟨c2, a2, rfl, b2, k2⟩ := arg_struct Try.underlying40 (hval 2 _ v2 rfl rfl) Pth.opens t2
  obtain ⟨v2h0, rfl, r2h0⟩ := b2
  obtain ⟨a3, rfl, k3⟩ := arg_int Try.underlying3 (hval 3 _ v3 rfl rfl) t3
  refine (l_FnExactPathRate a0 v0 a1 a2 v2h0 a3 W b0 k0 k1 r2h0 k2 k3).mono fun e W' ⟨he, hx⟩ => ?_
  subst he
  refine ⟨_, rfl, post_law laid_out ?_ (by kernel_rfl) Try.underlying4 rfl ?_ hW' hx⟩
  · rw [Try.params7]
    intro t ht
    simp only [List.mem_cons, List.not_mem_nil, or_false] at ht
    rcases ht with rfl | rfl | rfl | rfl <;> exact ⟨by kernel_rfl, of_decide_eq_true (by kernel_rfl)⟩
  · rw [Try.params7]
    intro ds' h
    obtain ⟨x0, x1, x2, x3, rfl⟩ := len4 (by simpa using h)
    rfl

theorem FnExactPathRate_holds : Rows.FnExactPathRateSaid :=
  OpenClaim.holds_of_wide 7 Try.f7 rfl rfl rfl rfl rfl rfl rfl ⟨rfl, rfl, rfl, rfl, rfl⟩ rfl rfl rfl rfl rfl (by kernel_rfl) Try.func7 (by kernel_rfl)
    (of_decide_eq_true (by kernel_rfl)) (by unfold Func.isWrapper; first | (rw [if_pos (by decide +kernel)]; kernel_rfl) | (rw [if_neg (by decide +kernel)]; exact ⟨rfl, rfl⟩))
    (fun os started H enc _ => FnExactPathRate_lifted os started H enc)
#print axioms FnExactPathRate_holds

end Go.Proofs.Ytpeipodehflmaaa
