/- Contracts of the functions on steps and on kinds of parts, program and reference, and of the laws over them. No condition but the bounds that each theorem names. -/
import Derived.Test.YtmjpjapjdhgchaaW01
import Derived.Test.YtmjpjapjdhgchaaApp
import Derived.Test.YtmjpjapjdhgchaaTyStep
namespace Go.Proofs.Ytmjpjapjdhgchaa
open Go.ChangeShapes Go.WideShapes Go.ChangeAt Go.RowKit Go.Deep

def revKind (k : Int) : Int := if k == 1 then 4 else if k == 4 then 1 else if k == 2 then 3 else if k == 3 then 2 else k

set_option maxHeartbeats 400000 in
theorem i_ReverseKind (k : Int) (w : World) :
    Calls Try.prog 22 #[.int .i64 k] w fun e w' => e = .returned (.int .i64 (revKind k)) ∧ Ext w w' := by
  go_enter Try.func22, Try.ntmps22
  go_wp2
  all_goals
    go_ret
    refine ⟨ret_int ?_, Ext.refl _⟩
    simp only [revKind, *, if_true, if_false, Bool.false_eq_true]

set_option maxHeartbeats 400000 in
theorem s_ReverseKind (k : Int) (w : World) :
    Calls Try.prog 21 #[.int .i64 k] w fun e w' => e = .returned (.int .i64 (revKind k)) ∧ Ext w w' := by
  go_enter Try.func21, Try.ntmps21
  go_wp2
  all_goals
    go_ret
    refine ⟨ret_int ?_, Ext.refl _⟩
    simp only [revKind, *, if_true, if_false, Bool.false_eq_true]

set_option maxHeartbeats 400000 in
theorem i_EqualSteps (a : List Step) (va : Value) (b : List Step) (vb : Value) (w : World) (ha : RdS Step.rep w va a) (hb : RdS Step.rep w vb b) :
    Calls Try.prog 26 #[va, vb] w fun e w' => e = .returned (.bool (decide (a = b))) ∧ Ext w w' := by
  obtain ⟨oa, ca, rfl, hsa⟩ := ha.shape
  obtain ⟨ob, cb, rfl, hsb⟩ := hb.shape
  by_cases hne : a.length = b.length
  · have Hne := Lib.hid hne
    have t1 : ((a.length : Int) != (b.length : Int)) = false := by simp [hne]
    clear hne
    go_enter Try.func26, Try.ntmps26
    go_wp2
    go_loopw [13] (fun i wr => ∃ (k : Nat), k ≤ a.length ∧ i = .int .i64 k ∧ a.take k = b.take k ∧ Ext w wr) (fun i _ => a.length - (intOf i).toNat)
    case atStart => exact ⟨0, Nat.zero_le _, rfl, rfl, Ext.refl _⟩
    case round =>
      obtain ⟨k, hk, rfl, htk, hx⟩ := hrel
      have Htk := Lib.hid htk; clear htk
      by_cases hlt : k < a.length
      · have hlb : k < b.length := by rw [← Hne.out]; exact hlt
        obtain ⟨b1, off1, rfl, hc1⟩ := Step.at (ha.ext hx) k hlt
        obtain ⟨b2, off2, rfl, hc2⟩ := Step.at (hb.ext hx) k hlb
        go_wp2
        go_still_tail 8, (by kernel_rfl)
        go_wp2_with fail
        all_goals first
          | (go_ret; exact ⟨ret_bool (Eq.symm (decide_eq_false (by rintro rfl; contradiction))), hx.drew⟩)
          | exact ⟨⟨k + 1, by omega, by go_num, take_snoc2 Htk.out hlt hlb (Step.ext' (by assumption) (by assumption) (by assumption)), hx.drew⟩, by simp [intOf]; omega⟩
      · have hab : decide (a = b) = true := by
          have := Htk.out
          rw [List.take_of_length_le (by omega), List.take_of_length_le (by rw [← Hne.out]; omega)] at this
          simp [this]
        have Hab := Lib.hid hab; clear hab
        go_wp2
        go_ret
        exact ⟨ret_bool Hab.out.symm, hx⟩
  · have t1 : ((a.length : Int) != (b.length : Int)) = true := by simp [bne_iff_ne]; omega
    have hab : decide (a = b) = false := by
      rw [decide_eq_false_iff_not]; rintro rfl; exact hne rfl
    have Hab := Lib.hid hab; clear hab
    clear hne
    go_enter Try.func26, Try.ntmps26
    go_wp2
    go_ret
    exact ⟨ret_bool Hab.out.symm, Ext.refl _⟩

set_option maxHeartbeats 400000 in
theorem s_EqualSteps (a : List Step) (va : Value) (b : List Step) (vb : Value) (w : World) (ha : RdS Step.rep w va a) (hb : RdS Step.rep w vb b) :
    Calls Try.prog 24 #[va, vb] w fun e w' => e = .returned (.bool (decide (a = b))) ∧ Ext w w' := by
  obtain ⟨oa, ca, rfl, hsa⟩ := ha.shape
  obtain ⟨ob, cb, rfl, hsb⟩ := hb.shape
  by_cases hne : a.length = b.length
  · have Hne := Lib.hid hne
    have t1 : ((a.length : Int) != (b.length : Int)) = false := by simp [hne]
    clear hne
    go_enter Try.func24, Try.ntmps24
    go_wp2
    go_loopw [5] (fun i wr => ∃ (k : Nat), k ≤ a.length ∧ i = .int .i64 k ∧ a.take k = b.take k ∧ Ext w wr) (fun i _ => a.length - (intOf i).toNat)
    case atStart => exact ⟨0, Nat.zero_le _, rfl, rfl, Ext.refl _⟩
    case round =>
      obtain ⟨k, hk, rfl, htk, hx⟩ := hrel
      have Htk := Lib.hid htk; clear htk
      by_cases hlt : k < a.length
      · have hlb : k < b.length := by rw [← Hne.out]; exact hlt
        obtain ⟨b1, off1, rfl, hc1⟩ := Step.at (ha.ext hx) k hlt
        obtain ⟨b2, off2, rfl, hc2⟩ := Step.at (hb.ext hx) k hlb
        go_wp2
        go_still_tail 8, (by kernel_rfl)
        go_wp2_with fail
        all_goals first
          | (go_ret; exact ⟨ret_bool (Eq.symm (decide_eq_false (by rintro rfl; contradiction))), hx.drew⟩)
          | exact ⟨⟨k + 1, by omega, by go_num, take_snoc2 Htk.out hlt hlb (Step.ext' (by assumption) (by assumption) (by assumption)), hx.drew⟩, by simp [intOf]; omega⟩
      · have hab : decide (a = b) = true := by
          have := Htk.out
          rw [List.take_of_length_le (by omega), List.take_of_length_le (by rw [← Hne.out]; omega)] at this
          simp [this]
        have Hab := Lib.hid hab; clear hab
        go_wp2
        go_ret
        exact ⟨ret_bool Hab.out.symm, hx⟩
  · have t1 : ((a.length : Int) != (b.length : Int)) = true := by simp [bne_iff_ne]; omega
    have hab : decide (a = b) = false := by
      rw [decide_eq_false_iff_not]; rintro rfl; exact hne rfl
    have Hab := Lib.hid hab; clear hab
    clear hne
    go_enter Try.func24, Try.ntmps24
    go_wp2
    go_ret
    exact ⟨ret_bool Hab.out.symm, Ext.refl _⟩

def revStep (x : Step) : Step := ⟨x.asn, x.eg, x.ing⟩
def revSteps (l : List Step) : List Step := l.reverse.map revStep
theorem elemStep : Nonempty (Elem Try.prog 39 72 3 24) := Elem.mk' Try.underlying39 Try.infoStep rfl (by decide)
theorem revSteps_drop {l : List Step} {k : Nat} (hk : k < l.length) : revSteps (l.drop (k + 1)) ++ [revStep l[k]] = revSteps (l.drop k) := by
  rw [List.drop_eq_getElem_cons hk]; simp only [revSteps, List.reverse_cons, List.map_append, List.map_cons, List.map_nil]

set_option maxHeartbeats 1000000 in
theorem i_ReverseSteps (l : List Step) (v : Value) (w : World) (hv : RdS Step.rep w v l) (hl : l.length ≤ 1048576) :
    Calls Try.prog 38 #[v] w fun e w' => ∃ v', e = .returned v' ∧ OwnF Step.f 3 w.heap.size 72 w' v' (revSteps l) ∧ Ext w w' := by
  obtain ⟨o, cap, rfl, hsm⟩ := hv.shape
  obtain ⟨E⟩ := elemStep
  go_enter Try.func38, Try.ntmps38
  go_wp2
  go_loopw [3, 4] (fun out i wr => ∃ (k : Nat), k ≤ l.length ∧ i = .int .i64 ((k : Int) - 1) ∧ OwnF Step.f 3 w.heap.size 72 wr out (revSteps (l.drop k)) ∧ Ext w wr) (fun _ i _ => (intOf i + 1).toNat)
  case atStart =>
    refine ⟨l.length, Nat.le_refl _, rfl, ?_, ?_⟩
    · rw [List.drop_length]; exact OwnF.nil _ _ _ _ _
    · exact Ext.refl _
  case round =>
    obtain ⟨k, hk, rfl, hown, hx⟩ := hrel
    by_cases hlt : 1 ≤ k
    · obtain ⟨j, rfl⟩ : ∃ j, k = j + 1 := ⟨k - 1, by omega⟩
      have hj : j < l.length := by omega
      obtain ⟨b, off, rfl, hc⟩ := Step.at (hv.ext hx) j hj
      have e1 : (((j + 1 : Nat) : Int) - 1) = (j : Int) := by omega
      rw [e1]
      clear e1
      have hln : (revSteps (l.drop (j + 1))).length + 1 ≤ 1048576 := by simp [revSteps]; omega
      go_wp2
      have hb0 : b < wr.heap.size := World.block_lt_of_cell? wr _ hc.1
      have hj0 : (0 : Int) ≤ (j : Int) := Int.natCast_nonneg _
      have hj1 : (j : Int) < (l.length : Int) := by omega
      have hbw : Ext w ((wr.alloc (.cells #[.int .i64 l[j].asn, .int .i64 l[j].eg, .int .i64 l[j].ing] 72)).drew) := (hx.alloc _).drew
      go_region_held3 (fun w' => w'.cell? ⟨b, off + j * 3, none⟩ = some (.int .i64 l[j].asn) ∧ w'.cell? ⟨b, off + j * 3 + 1, none⟩ = some (.int .i64 l[j].ing) ∧ w'.cell? ⟨b, off + j * 3 + 2, none⟩ = some (.int .i64 l[j].eg))
        (first | go_keep | (obtain ⟨b', off', he, hh⟩ := Step.at (hv.ext ((hx.alloc _).drew.app hg' hown (Nat.le_refl _))) j hj; cases he; exact hh))
        ((refine stepApp1 E Step.flen Step.one (by rfl) _ _ (by rfl) (revStep l[j]) (by rfl) (OwnF.ext hown ((Ext.refl _).alloc _).drew) (by rfl) (blk_list (revStep l[j]).f (blk_new wr _)) (by omega) (by unfold maxLen; omega) hbw.size ?_; intro v' w' ho' hg'))
      have hx' : Ext w w' := (hx.alloc _).drew.app hg' hown (Nat.le_refl _)
      rw [revSteps_drop hj] at ho'
      clear hg'
      go_wp2
      go_roundw
      case rel => exact ⟨j, by omega, rfl, ho', hx'⟩
      case measure => simp [intOf]
    · obtain rfl : k = 0 := by omega
      go_wp2
      go_ret
      exact ⟨_, rfl, hown, hx⟩

set_option maxHeartbeats 1000000 in
theorem s_ReverseSteps (l : List Step) (v : Value) (w : World) (hv : RdS Step.rep w v l) (hl : l.length ≤ 1048576) :
    Calls Try.prog 37 #[v] w fun e w' => ∃ v', e = .returned v' ∧ OwnF Step.f 3 w.heap.size 72 w' v' (revSteps l) ∧ Ext w w' := by
  obtain ⟨o, cap, rfl, hsm⟩ := hv.shape
  obtain ⟨E⟩ := elemStep
  go_enter Try.func37, Try.ntmps37
  go_wp2
  go_loopw [3, 4] (fun out i wr => ∃ (k : Nat), k ≤ l.length ∧ i = .int .i64 ((k : Int) - 1) ∧ OwnF Step.f 3 w.heap.size 72 wr out (revSteps (l.drop k)) ∧ Ext w wr) (fun _ i _ => (intOf i + 1).toNat)
  case atStart =>
    refine ⟨l.length, Nat.le_refl _, rfl, ?_, ?_⟩
    · rw [List.drop_length]; exact OwnF.empty _ _ _ _ _ (Nat.le_refl _)
    · exact (Ext.refl _).alloc _
  case round =>
    obtain ⟨k, hk, rfl, hown, hx⟩ := hrel
    by_cases hlt : 1 ≤ k
    · obtain ⟨j, rfl⟩ : ∃ j, k = j + 1 := ⟨k - 1, by omega⟩
      have hj : j < l.length := by omega
      obtain ⟨b, off, rfl, hc⟩ := Step.at (hv.ext hx) j hj
      have e1 : (((j + 1 : Nat) : Int) - 1) = (j : Int) := by omega
      rw [e1]
      clear e1
      have hln : (revSteps (l.drop (j + 1))).length + 1 ≤ 1048576 := by simp [revSteps]; omega
      go_wp2
      have hb0 : b < wr.heap.size := World.block_lt_of_cell? wr _ hc.1
      have hj0 : (0 : Int) ≤ (j : Int) := Int.natCast_nonneg _
      have hj1 : (j : Int) < (l.length : Int) := by omega
      have hbw : Ext w ((wr.alloc (.cells #[.int .i64 l[j].asn, .int .i64 l[j].eg, .int .i64 l[j].ing] 72)).drew) := (hx.alloc _).drew
      go_region_held3 (fun w' => w'.cell? ⟨b, off + j * 3, none⟩ = some (.int .i64 l[j].asn) ∧ w'.cell? ⟨b, off + j * 3 + 1, none⟩ = some (.int .i64 l[j].ing) ∧ w'.cell? ⟨b, off + j * 3 + 2, none⟩ = some (.int .i64 l[j].eg))
        (first | go_keep | (obtain ⟨b', off', he, hh⟩ := Step.at (hv.ext ((hx.alloc _).drew.app hg' hown (Nat.le_refl _))) j hj; cases he; exact hh))
        ((refine stepApp1 E Step.flen Step.one (by rfl) _ _ (by rfl) (revStep l[j]) (by rfl) (OwnF.ext hown ((Ext.refl _).alloc _).drew) (by rfl) (blk_list (revStep l[j]).f (blk_new wr _)) (by omega) (by unfold maxLen; omega) hbw.size ?_; intro v' w' ho' hg'))
      have hx' : Ext w w' := (hx.alloc _).drew.app hg' hown (Nat.le_refl _)
      rw [revSteps_drop hj] at ho'
      clear hg'
      go_wp2
      go_roundw
      case rel => exact ⟨j, by omega, rfl, ho', hx'⟩
      case measure => simp [intOf]
    · obtain rfl : k = 0 := by omega
      go_wp2
      go_ret
      exact ⟨_, rfl, hown, hx⟩

end Go.Proofs.Ytmjpjapjdhgchaa
