/- What these laws need: FnFlips: Contracts of the functions on steps and on kinds of parts, program and reference, and of the laws over them. -/
import Derived.Test.YtikbeiafobnblaaGreatKR31
namespace Go.Proofs.YtikbeiafobnblaaGreat
section
open Go.ChangeShapes Go.WideShapes Go.ChangeAt Go.RowKit Go.Deep
set_option maxHeartbeats 1000000 in
theorem s_ReverseSteps (l : List Step) (v : Value) (w : World) (hv : RdS Step.rep w v l) (hl : l.length ≤ 1048576) :
  Calls Tryz.prog 46 #[v] w fun e w' => ∃ v', e = .returned v' ∧ OwnF Step.f 3 w.heap.size 123 w' v' (revSteps l) ∧ Ext w w' := by
 obtain ⟨o, cap, rfl, hsm⟩ := hv.shape
 obtain ⟨E⟩ := elemStep
 go_enter Tryz.func46, Tryz.ntmps46
 go_wp2
 go_loopw [3, 4] (fun out i wr => ∃ (k : Nat), k ≤ l.length ∧ i = .int .i64 ((k : Int) - 1) ∧ OwnF Step.f 3 w.heap.size 123 wr out (revSteps (l.drop k)) ∧ Ext w wr) (fun _ i _ => (intOf i + 1).toNat)
 case atStart =>
  refine ⟨l.length, Nat.le_refl _, rfl, ?_, ?_⟩
  ·
   rw [List.drop_length]; exact OwnF.empty _ _ _ _ _ (Nat.le_refl _)
  ·
   exact (Ext.refl _).alloc _
 case round =>
  obtain ⟨k, hk, rfl, hown, hx⟩ := hrel
  by_cases hlt : 1 ≤ k
  ·
   obtain ⟨j, rfl⟩ : ∃ j, k = j + 1 := ⟨k - 1, by omega⟩
   have hj : j < l.length := by omega
   obtain ⟨b, off, rfl, hc⟩ := Step.at (hv.ext hx) j hj
   have e1 : (((j + 1 : Nat) : Int) - 1) = (j : Int) := by omega
   rw [e1]
   clear e1
   have hln : (revSteps (l.drop (j + 1))).length + 1 ≤ 1048576 := by simp [revSteps]; omega
   go_wp2
   have hb0 : b < wr.heap.size := World.block_lt_of_cell? wr _ hc.1
   have hj0 : (0 : Int) ≤ (j : Int) := Int.natCast_nonneg _
   have hj1 : (j : Int) < (l.length : Int) := by omega
   have hbw : Ext w ((wr.alloc (.cells #[.int .i64 l[j].asn, .int .i64 l[j].eg, .int .i64 l[j].ing] 123)).drew) := (hx.alloc _).drew
   go_region_held3 (fun w' => w'.cell? ⟨b, off + j * 3, none⟩ = some (.int .i64 l[j].asn) ∧ w'.cell? ⟨b, off + j * 3 + 1, none⟩ = some (.int .i64 l[j].ing) ∧ w'.cell? ⟨b, off + j * 3 + 2, none⟩ = some (.int .i64 l[j].eg))
    (first | go_keep | (obtain ⟨b', off', he, hh⟩ := Step.at (hv.ext ((hx.alloc _).drew.app hg' hown (Nat.le_refl _))) j hj; cases he; exact hh))
    ((refine stepApp1 E Step.flen Step.one (by rfl) _ _ (by rfl) (revStep l[j]) (by rfl) (OwnF.ext hown ((Ext.refl _).alloc _).drew) (by rfl) (blk_list (revStep l[j]).f (blk_new wr _)) (by omega) (by unfold maxLen; omega) hbw.size ?_; intro v' w' ho' hg'))
   have hx' : Ext w w' := (hx.alloc _).drew.app hg' hown (Nat.le_refl _)
   rw [revSteps_drop hj] at ho'
   clear hg'
   go_wp2
   go_roundw
   case rel => exact ⟨j, by omega, rfl, ho', hx'⟩
   case measure => simp [intOf]
  ·
   obtain rfl : k = 0 := by omega
   go_wp2
   go_ret
   exact ⟨_, rfl, hown, hx⟩
end
end Go.Proofs.YtikbeiafobnblaaGreat
