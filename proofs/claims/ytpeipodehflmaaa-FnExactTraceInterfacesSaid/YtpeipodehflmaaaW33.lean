/- Contracts of the filters over revocations and reservations, program and reference. No condition but the bounds that each theorem names. -/
import Derived.Test.YtpeipodehflmaaaW32
namespace Go.Proofs.Ytpeipodehflmaaa
open Go.ChangeShapes Go.WideShapes Go.ChangeAt Go.RowKit Go.Deep

theorem elemRevc : Nonempty (Elem Try.prog 73 49 3 24) := Elem.mk' Try.underlying73 Try.infoRevc rfl (by decide)
theorem elemResv : Nonempty (Elem Try.prog 62 137 5 40) := Elem.mk' Try.underlying62 Try.infoResv rfl (by decide)
def activeRevs (now : Int) (l : List Revc) : List Revc := l.filter fun x => decide (now ≤ x.till)
def activeResvs (now : Int) (l : List Resv) : List Resv := l.filter fun x => decide (now ≤ x.till)
def release (id : Int) (l : List Resv) : List Resv := l.filter fun x => x.id != id

set_option maxHeartbeats 1000000 in
theorem i_ActiveRevocations (l : List Revc) (v : Value) (now : Int) (w : World) (hv : RdS Revc.rep w v l) (hl : l.length ≤ 1048576) :
    Calls Try.prog 119 #[v, .int .i64 now] w fun e w' => ∃ v', e = .returned v' ∧ OwnF Revc.f 3 w.heap.size 49 w' v' ((activeRevs now) l) ∧ Ext w w' := by
  obtain ⟨o, cap, rfl, hsm⟩ := hv.shape
  obtain ⟨E⟩ := elemRevc
  go_enter Try.func119, Try.ntmps119
  go_wp2
  go_loopw [5, 10] (fun out i wr => ∃ (k : Nat), k ≤ l.length ∧ i = .int .i64 k ∧ OwnF Revc.f 3 w.heap.size 49 wr out ((activeRevs now) (l.take k)) ∧ Ext w wr) (fun _ i _ => l.length - (intOf i).toNat)
  case atStart => exact ⟨0, Nat.zero_le _, rfl, OwnF.nil _ _ _ _ _, Ext.refl _⟩
  case round =>
    obtain ⟨k, hk, rfl, hown, hx⟩ := hrel
    by_cases hlt : k < l.length
    · obtain ⟨b, off, rfl, hc⟩ := Revc.at (hv.ext hx) k hlt
      have hln : ((activeRevs now) (l.take k)).length ≤ k := Nat.le_trans (List.length_filter_le _ _) (List.length_take_le _ _)
      by_cases ht : decide (now ≤ l[k].till) = true
      · have hnext : (activeRevs now) (l.take k) ++ [l[k]] = (activeRevs now) (l.take (k + 1)) := filter_pos (α := Revc) (fun x : Revc => decide (now ≤ x.till)) hlt ht
        have HN := Lib.hid hnext; clear hnext
        have ht2 : now ≤ l[k].till := by simpa using ht
        go_wp2_with (at_builtin; refine app1 E Revc.flen Revc.one rfl _ _ rfl l[k] rfl (OwnF.ext hown (((Ext.refl _).alloc _).alloc _)) rfl (by exact blk_list l[k].f (blk_new2 wr _ _)) (by omega) (by unfold maxLen; omega) (by exact ((hx.alloc _).alloc _).size) ?_)
        intro v' w' ho' hg'
        have hx' : Ext w w' := ((hx.alloc _).alloc _).app hg' hown (Nat.le_refl _)
        rw [HN.out] at ho'
        clear hg'
        go_wp2
        go_roundw
        case rel => exact ⟨k + 1, by omega, by go_num, ho', hx'⟩
        case measure => simp [intOf]; omega
      · have hnext : (activeRevs now) (l.take k) = (activeRevs now) (l.take (k + 1)) := filter_neg (α := Revc) (fun x : Revc => decide (now ≤ x.till)) hlt ht
        have HN := Lib.hid hnext; clear hnext
        have ht2 : l[k].till < now := by simp at ht; omega
        rw [HN.out] at hown
        go_wp2_with fail
        go_roundw
        case rel => exact ⟨k + 1, by omega, by go_num, hown.ext ((Ext.refl _).alloc _), hx.alloc _⟩
        case measure => simp [intOf]; omega
    · go_wp2
      go_ret
      rw [List.take_of_length_le (by omega)] at hown
      exact ⟨_, rfl, hown, hx⟩



set_option maxHeartbeats 1000000 in
theorem s_ActiveRevocations (l : List Revc) (v : Value) (now : Int) (w : World) (hv : RdS Revc.rep w v l) (hl : l.length ≤ 1048576) :
    Calls Try.prog 118 #[v, .int .i64 now] w fun e w' => ∃ v', e = .returned v' ∧ OwnF Revc.f 3 w.heap.size 49 w' v' ((activeRevs now) l) ∧ Ext w w' := by
  obtain ⟨o, cap, rfl, hsm⟩ := hv.shape
  obtain ⟨E⟩ := elemRevc
  go_enter Try.func118, Try.ntmps118
  go_wp2
  go_loopw [5, 6] (fun out i wr => ∃ (k : Nat), k ≤ l.length ∧ i = .int .i64 k ∧ OwnF Revc.f 3 w.heap.size 49 wr out ((activeRevs now) (l.take k)) ∧ Ext w wr) (fun _ i _ => l.length - (intOf i).toNat)
  case atStart => exact ⟨0, Nat.zero_le _, rfl, OwnF.empty _ _ _ _ _ (Nat.le_refl _), (Ext.refl _).alloc _⟩
  case round =>
    obtain ⟨k, hk, rfl, hown, hx⟩ := hrel
    by_cases hlt : k < l.length
    · obtain ⟨b, off, rfl, hc⟩ := Revc.at (hv.ext hx) k hlt
      have hln : ((activeRevs now) (l.take k)).length ≤ k := Nat.le_trans (List.length_filter_le _ _) (List.length_take_le _ _)
      by_cases ht : decide (now ≤ l[k].till) = true
      · have hnext : (activeRevs now) (l.take k) ++ [l[k]] = (activeRevs now) (l.take (k + 1)) := filter_pos (α := Revc) (fun x : Revc => decide (now ≤ x.till)) hlt ht
        have HN := Lib.hid hnext; clear hnext
        have ht2 : now ≤ l[k].till := by simpa using ht
        go_wp2_with (at_builtin; refine app1 E Revc.flen Revc.one rfl _ _ rfl l[k] rfl (OwnF.ext hown ((Ext.refl _).alloc _)) rfl (by exact blk_list l[k].f (blk_new wr _)) (by omega) (by unfold maxLen; omega) (by exact (hx.alloc _).size) ?_)
        intro v' w' ho' hg'
        have hx' : Ext w w' := (hx.alloc _).app hg' hown (Nat.le_refl _)
        rw [HN.out] at ho'
        clear hg'
        go_wp2
        go_roundw
        case rel => exact ⟨k + 1, by omega, by go_num, ho', hx'⟩
        case measure => simp [intOf]; omega
      · have hnext : (activeRevs now) (l.take k) = (activeRevs now) (l.take (k + 1)) := filter_neg (α := Revc) (fun x : Revc => decide (now ≤ x.till)) hlt ht
        have HN := Lib.hid hnext; clear hnext
        have ht2 : l[k].till < now := by simp at ht; omega
        rw [HN.out] at hown
        go_wp2_with fail
        go_roundw
        case rel => exact ⟨k + 1, by omega, by go_num, hown, hx⟩
        case measure => simp [intOf]; omega
    · go_wp2
      go_ret
      rw [List.take_of_length_le (by omega)] at hown
      exact ⟨_, rfl, hown, hx⟩



end Go.Proofs.Ytpeipodehflmaaa
