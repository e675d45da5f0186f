/- The law FnExactFormatTrace: for every input the call returns true, and each argument reads afterwards as it read before. No condition. -/
import Derived.Test.YtcpfmhgfaliemaaKNxL06
namespace Go.Proofs.Ytcpfmhgfaliemaa
open Go.ChangeShapes Go.WideShapes Go.ChangeAt Go.RowKit Go.Deep

set_option maxRecDepth 100000 in
theorem FnExactFormatTrace_lifted (os : Os) (started : os.Started) (H : Type) (enc : TypeId × Value → H) :
    ReturnsInHanded {} Try.checked os 3 .any (Rows.fnExactFormatTraceSpec.pre6 enc Try.prog Try.f3 Rows.fnExactFormatTraceRow.domain false) (Rows.fnExactFormatTraceSpec.post enc Try.prog Try.f3 false true false false) := by
  refine returnsInHanded_of_change (C := Try.checked) own_knob started (by kernel_rfl) Try.func3
    (ChangeSpec.witness6 (enc := enc) (C := Try.checked) false ⟨#[], #[.agg #[.slice none 0 0, .slice none 0 0], .agg #[.int .i64 0, .slice none 0 0, .int .i64 0, .int .i64 0, .int .i64 0, .slice none 0 0, .int .i64 0, .int .i64 0, .int .i64 0, .int .i64 0, .int .i64 0, .slice none 0 0]], []⟩ 8 (by kernel_rfl) (by kernel_rfl) (by kernel_rfl) (by kernel_rfl)) ?_
  intro W base args ds gs before hval0 hW hcnd _
  have hval : ∀ (j : Nat) t v, Try.f3.params[j]? = some t → args[j]? = some v → Value.okWide Try.prog W .any base t v := hval0
  have hW' := hW
  obtain ⟨p, q, hA0, hV, rfl, hfz, hnd⟩ := hW
  have hA : DataW.TrodAll enc Try.prog W 0 (fun _ => true) true Try.f3.params.toList args.toList ds p := hA0
  rw [Try.params3] at hA hval
  obtain ⟨v0, vs0, d0, ds0, p0, q0, hargs, rfl, rfl, t0, r0⟩ := trodAll_cons hA
  obtain ⟨v1, vs1, d1, ds1, p1, q1, rfl, rfl, rfl, t1, r1⟩ := trodAll_cons r0
  obtain ⟨rfl, rfl, rfl⟩ := trodAll_nil r1
  obtain rfl : args = #[v0, v1] := by cases args; simp_all
  obtain ⟨c0, a0, rfl, b0, k0⟩ := arg_struct Try.underlying25 (hval 0 _ v0 rfl rfl) Topo.opens t0
  obtain ⟨v0h0, v0h1, rfl, r0h0, r0h1⟩ := b0
  obtain ⟨c1, a1, rfl, b1, k1⟩ := arg_struct Try.underlying34 (hval 1 _ v1 rfl rfl) Trc.opens t1
  obtain ⟨v1h0, v1h1, v1h2, rfl, r1h0, r1h1, r1h2⟩ := b1
  refine (l_FnExactFormatTrace a0 v0h0 v0h1 a1 v1h0 v1h1 v1h2 W r0h0 r0h1 k0 r1h0 r1h1 r1h2 k1).mono fun e W' ⟨he, hx⟩ => ?_
  subst he
  refine ⟨_, rfl, post_law laid_out ?_ (by kernel_rfl) Try.underlying4 rfl ?_ hW' hx⟩
  · rw [Try.params3]
    intro t ht
    simp only [List.mem_cons, List.not_mem_nil, or_false] at ht
    rcases ht with rfl | rfl <;> exact ⟨by kernel_rfl, of_decide_eq_true (by kernel_rfl)⟩
  · rw [Try.params3]
    intro ds' h
    obtain ⟨x0, x1, rfl⟩ := len2 (by simpa using h)
    rfl

theorem FnExactFormatTrace_holds : Rows.FnExactFormatTraceSaid :=
  OpenClaim.holds_of_wide 3 Try.f3 rfl rfl rfl rfl rfl rfl rfl ⟨rfl, rfl, rfl, rfl, rfl⟩ rfl rfl rfl rfl rfl (by kernel_rfl) Try.func3 (by kernel_rfl)
    (of_decide_eq_true (by kernel_rfl)) (by unfold Func.isWrapper; first | (rw [if_pos (by decide +kernel)]; kernel_rfl) | (rw [if_neg (by decide +kernel)]; exact ⟨rfl, rfl⟩))
    (fun os started H enc _ => FnExactFormatTrace_lifted os started H enc)
#print axioms FnExactFormatTrace_holds

end Go.Proofs.Ytcpfmhgfaliemaa
