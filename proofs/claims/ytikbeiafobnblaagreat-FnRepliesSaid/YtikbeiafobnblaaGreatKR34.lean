/- What these laws need: FnFlips, FnReplies: The laws' own comparisons: what is the same compares as the same. -/
import Derived.Test.YtikbeiafobnblaaGreatKR10
import Derived.Test.YtikbeiafobnblaaGreatKR19
import Derived.Test.YtikbeiafobnblaaGreatKR31
namespace Go.Proofs.YtikbeiafobnblaaGreat
section
open Go.ChangeShapes Go.WideShapes Go.ChangeAt Go.RowKit Go.Deep
set_option maxRecDepth 100000 in
set_option maxHeartbeats 400000 in
theorem l_sameSteps (a : List Step) (va : Value) (b : List Step) (vb : Value) (w : World) (ha : RdS Step.rep w va a) (hb : RdS Step.rep w vb b) :
  Calls Tryz.prog 44 #[va, vb] w fun e w' => e = .returned (.bool (decide (a = b))) ∧ Ext w w' := by
 obtain ⟨oa, ca, rfl, hsa⟩ := ha.shape
 obtain ⟨ob, cb, rfl, hsb⟩ := hb.shape
 by_cases hne : a.length = b.length
 ·
  have Hne := Lib.hid hne
  have t1 : ((a.length : Int) != (b.length : Int)) = false := by simp [hne]
  clear hne
  go_enter Tryz.func44, Tryz.ntmps44
  go_wp2
  go_loopw [5] (fun i wr => ∃ (k : Nat), k ≤ a.length ∧ i = .int .i64 k ∧ a.take k = b.take k ∧ Ext w wr) (fun i _ => a.length - (intOf i).toNat)
  case atStart => exact ⟨0, Nat.zero_le _, rfl, rfl, Ext.refl _⟩
  case round =>
   obtain ⟨k, hk, rfl, htk, hx⟩ := hrel
   have Htk := Lib.hid htk; clear htk
   by_cases hlt : k < a.length
   ·
    have hlb : k < b.length := by rw [← Hne.out]; exact hlt
    obtain ⟨b1, off1, rfl, hc1⟩ := Step.at (ha.ext hx) k hlt
    obtain ⟨b2, off2, rfl, hc2⟩ := Step.at (hb.ext hx) k hlb
    go_wp2
    go_still_tail 8, (by kernel_rfl)
    go_wp2_with fail
    all_goals first
     | (go_ret; exact ⟨ret_bool (Eq.symm (decide_eq_false (by rintro rfl; contradiction))), hx.drew⟩)
     | exact ⟨⟨k + 1, by omega, by go_num, take_snoc2 Htk.out hlt hlb (Step.ext' (by assumption) (by assumption) (by assumption)), hx.drew⟩, by simp [intOf]; omega⟩
   ·
    have hab : decide (a = b) = true := by
     have := Htk.out
     rw [List.take_of_length_le (by omega), List.take_of_length_le (by rw [← Hne.out]; omega)] at this
     simp [this]
    have Hab := Lib.hid hab; clear hab
    go_wp2
    go_ret
    exact ⟨ret_bool Hab.out.symm, hx⟩
 ·
  have t1 : ((a.length : Int) != (b.length : Int)) = true := by simp [bne_iff_ne]; omega
  have hab : decide (a = b) = false := by
   rw [decide_eq_false_iff_not]; rintro rfl; exact hne rfl
  have Hab := Lib.hid hab; clear hab
  clear hne
  go_enter Tryz.func44, Tryz.ntmps44
  go_wp2
  go_ret
  exact ⟨ret_bool Hab.out.symm, Ext.refl _⟩
end
end Go.Proofs.YtikbeiafobnblaaGreat
