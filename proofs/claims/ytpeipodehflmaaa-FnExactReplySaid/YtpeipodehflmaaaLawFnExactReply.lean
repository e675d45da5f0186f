/- The law FnExactReply: for every input the call returns true, and each argument reads afterwards as it read before. No condition. -/
import Derived.Test.YtpeipodehflmaaaL30y
namespace Go.Proofs.Ytpeipodehflmaaa
open Go.ChangeShapes Go.WideShapes Go.ChangeAt Go.RowKit Go.Deep

set_option maxRecDepth 100000 in
theorem FnExactReply_lifted (os : Os) (started : os.Started) (H : Type) (enc : TypeId × Value → H) :
    ReturnsInHanded {} Try.checked os 14 .any (Rows.fnExactReplySpec.pre6 enc Try.prog Try.f14 Rows.fnExactReplyRow.domain false) (Rows.fnExactReplySpec.post enc Try.prog Try.f14 false true false false) := by
  refine returnsInHanded_of_change (C := Try.checked) own_knob started (by kernel_rfl) Try.func14
    (ChangeSpec.witness6 (enc := enc) (C := Try.checked) false ⟨#[], #[.agg #[.int .i64 0, .int .i64 0, .int .i64 0, .slice none 0 0, .int .i64 0, .int .i64 0, .int .i64 0, .int .i64 0, .int .i64 0, .slice none 0 0], .int .i64 0, .int .i64 0, .slice none 0 0], []⟩ 8 (by kernel_rfl) (by kernel_rfl) (by kernel_rfl) (by kernel_rfl)) ?_
  intro W base args ds gs before hval0 hW hcnd _
  have hval : ∀ (j : Nat) t v, Try.f14.params[j]? = some t → args[j]? = some v → Value.okWide Try.prog W .any base t v := hval0
  have hW' := hW
  obtain ⟨p, q, hA0, hV, rfl, hfz, hnd⟩ := hW
  have hA : DataW.TrodAll enc Try.prog W 0 (fun _ => true) true Try.f14.params.toList args.toList ds p := hA0
  rw [Try.params14] at hA hval
  obtain ⟨v0, vs0, d0, ds0, p0, q0, hargs, rfl, rfl, t0, r0⟩ := trodAll_cons hA
  obtain ⟨v1, vs1, d1, ds1, p1, q1, rfl, rfl, rfl, t1, r1⟩ := trodAll_cons r0
  obtain ⟨v2, vs2, d2, ds2, p2, q2, rfl, rfl, rfl, t2, r2⟩ := trodAll_cons r1
  obtain ⟨v3, vs3, d3, ds3, p3, q3, rfl, rfl, rfl, t3, r3⟩ := trodAll_cons r2
  obtain ⟨rfl, rfl, rfl⟩ := trodAll_nil r3
  obtain rfl : args = #[v0, v1, v2, v3] := by cases args; simp_all
  obtain ⟨c0, a0, rfl, b0, k0⟩ := arg_struct Try.underlying80 (hval 0 _ v0 rfl rfl) Pkt.opens t0
  obtain ⟨v0h0, v0h1, rfl, r0h0, r0h1⟩ := b0
  obtain ⟨a1, rfl, k1⟩ := arg_int Try.underlying3 (hval 1 _ v1 rfl rfl) t1
  obtain ⟨a2, rfl, k2⟩ := arg_int Try.underlying3 (hval 2 _ v2 rfl rfl) t2
  obtain ⟨a3, b3, k3⟩ := arg_slice Try.underlying78 (hval 3 _ v3 rfl rfl) opensBytes t3
  refine (l_FnExactReply a0 v0h0 v0h1 a1 a2 a3 v3 W r0h0 r0h1 k0 k1 k2 b3 k3).mono fun e W' ⟨he, hx⟩ => ?_
  subst he
  refine ⟨_, rfl, post_law laid_out ?_ (by kernel_rfl) Try.underlying4 rfl ?_ hW' hx⟩
  · rw [Try.params14]
    intro t ht
    simp only [List.mem_cons, List.not_mem_nil, or_false] at ht
    rcases ht with rfl | rfl | rfl | rfl <;> exact ⟨by kernel_rfl, of_decide_eq_true (by kernel_rfl)⟩
  · rw [Try.params14]
    intro ds' h
    obtain ⟨x0, x1, x2, x3, rfl⟩ := len4 (by simpa using h)
    rfl

theorem FnExactReply_holds : Rows.FnExactReplySaid :=
  OpenClaim.holds_of_wide 14 Try.f14 rfl rfl rfl rfl rfl rfl rfl ⟨rfl, rfl, rfl, rfl, rfl⟩ rfl rfl rfl rfl rfl (by kernel_rfl) Try.func14 (by kernel_rfl)
    (of_decide_eq_true (by kernel_rfl)) (by unfold Func.isWrapper; first | (rw [if_pos (by decide +kernel)]; kernel_rfl) | (rw [if_neg (by decide +kernel)]; exact ⟨rfl, rfl⟩))
    (fun os started H enc _ => FnExactReply_lifted os started H enc)
#print axioms FnExactReply_holds

end Go.Proofs.Ytpeipodehflmaaa
