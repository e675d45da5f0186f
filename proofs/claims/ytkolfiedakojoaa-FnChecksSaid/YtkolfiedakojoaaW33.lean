/- Contracts of the filters over revocations and reservations, program and reference. No condition but the bounds that each theorem names. -/
import Derived.Test.YtkolfiedakojoaaW32
namespace Go.Proofs.Ytkolfiedakojoaa
open Go.ChangeShapes Go.WideShapes Go.ChangeAt Go.RowKit Go.Deep

theorem elemResv : Nonempty (Elem Try.prog 24 116 5 40) := Elem.mk' Try.underlying24 Try.infoResv rfl (by decide)
def activeRevs (now : Int) (l : List Revc) : List Revc := l.filter fun x => decide (now ≤ x.till)
def activeResvs (now : Int) (l : List Resv) : List Resv := l.filter fun x => decide (now ≤ x.till)
def release (id : Int) (l : List Resv) : List Resv := l.filter fun x => x.id != id



set_option maxHeartbeats 1000000 in
theorem i_Release (l : List Resv) (v : Value) (id : Int) (w : World) (hv : RdS Resv.rep w v l) (hl : l.length ≤ 1048576) :
    Calls Try.prog 32 #[v, .int .i64 id] w fun e w' => ∃ v', e = .returned v' ∧ OwnF Resv.f 5 w.heap.size 116 w' v' ((release id) l) ∧ Ext w w' := by
  obtain ⟨o, cap, rfl, hsm⟩ := hv.shape
  obtain ⟨E⟩ := elemResv
  go_enter Try.func32, Try.ntmps32
  go_wp2
  go_loopw [5, 10] (fun out i wr => ∃ (k : Nat), k ≤ l.length ∧ i = .int .i64 k ∧ OwnF Resv.f 5 w.heap.size 116 wr out ((release id) (l.take k)) ∧ Ext w wr) (fun _ i _ => l.length - (intOf i).toNat)
  case atStart => exact ⟨0, Nat.zero_le _, rfl, OwnF.nil _ _ _ _ _, Ext.refl _⟩
  case round =>
    obtain ⟨k, hk, rfl, hown, hx⟩ := hrel
    by_cases hlt : k < l.length
    · obtain ⟨b, off, rfl, hc⟩ := Resv.at (hv.ext hx) k hlt
      have hln : ((release id) (l.take k)).length ≤ k := Nat.le_trans (List.length_filter_le _ _) (List.length_take_le _ _)
      by_cases ht : (l[k].id != id) = true
      · have hnext : (release id) (l.take k) ++ [l[k]] = (release id) (l.take (k + 1)) := filter_pos (α := Resv) (fun x : Resv => x.id != id) hlt ht
        have HN := Lib.hid hnext; clear hnext
        have ht2 : (l[k].id != id) = true := ht
        go_wp2_with (at_builtin; refine app1 E Resv.flen Resv.one rfl _ _ rfl l[k] rfl (OwnF.ext hown (((Ext.refl _).alloc _).alloc _)) rfl (by exact blk_list l[k].f (blk_new2 wr _ _)) (by omega) (by unfold maxLen; omega) (by exact ((hx.alloc _).alloc _).size) ?_)
        intro v' w' ho' hg'
        have hx' : Ext w w' := ((hx.alloc _).alloc _).app hg' hown (Nat.le_refl _)
        rw [HN.out] at ho'
        clear hg'
        go_wp2
        go_roundw
        case rel => exact ⟨k + 1, by omega, by go_num, ho', hx'⟩
        case measure => simp [intOf]; omega
      · have hnext : (release id) (l.take k) = (release id) (l.take (k + 1)) := filter_neg (α := Resv) (fun x : Resv => x.id != id) hlt ht
        have HN := Lib.hid hnext; clear hnext
        have ht2 : (l[k].id != id) = false := by simpa using ht
        rw [HN.out] at hown
        go_wp2_with fail
        go_roundw
        case rel => exact ⟨k + 1, by omega, by go_num, hown.ext ((Ext.refl _).alloc _), hx.alloc _⟩
        case measure => simp [intOf]; omega
    · go_wp2
      go_ret
      rw [List.take_of_length_le (by omega)] at hown
      exact ⟨_, rfl, hown, hx⟩




end Go.Proofs.Ytkolfiedakojoaa
