/- What these laws need: FnForged: The cursor that the draws of the laws read: its contracts say no more than the bounds of what is drawn. -/
import Derived.Deep.LoopGhost
import Derived.Deep.DeepCutAuto
import Derived.Test.YtjmlicmloacmaaaGreatKR4
namespace Go.Proofs.YtjmlicmloacmaaaGreat
section
open Go.ChangeShapes Go.WideShapes Go.ChangeAt Go.RowKit Go.Deep
set_option maxHeartbeats 400000 in
theorem l_at (code : List Int) (v : Value) (i : Int) (w : World) (hr : RdS Rep.byte w v code) (hu : ∀ x ∈ code, U8 x) (h0 : 0 ≤ i) (h1 : i ≤ 1048576) (hl : code.length ≤ 1048576) :
  Calls Tryz.prog 38 #[v, .int .i64 i] w fun e w' => ∃ r : Int, e = .returned (.int .i64 r) ∧ 0 ≤ r ∧ r ≤ 255 ∧ w = w' := by
 obtain ⟨o, cap, rfl, hsm⟩ := hr.shape
 obtain ⟨k, rfl⟩ := Int.eq_ofNat_of_zero_le h0
 go_enter Tryz.func38, Tryz.ntmps38
 by_cases hlt : k < code.length
 ·
  obtain ⟨b, off, rfl, hcell⟩ := bytes_at hr k hlt
  obtain ⟨hu0, hu1⟩ := hu code[k] (List.getElem_mem _)
  go_wp2
  go_ret
  exact ⟨_, rfl, by omega, by omega, rfl⟩
 ·
  go_wp2
  go_ret
  exact ⟨_, rfl, by omega, by omega, rfl⟩
end
end Go.Proofs.YtjmlicmloacmaaaGreat
