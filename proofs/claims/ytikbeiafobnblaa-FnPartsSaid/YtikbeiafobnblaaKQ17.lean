/- What these laws need: FnFinishes, FnParts: Contracts of the arithmetic modulo the prime, program and reference. Contracts of copying hops, parts and paths, program and reference. The cursor that the draws of the laws read: its contracts say no more than the bounds of what is drawn. -/
import Derived.Deep.LoopGhost
import Derived.Deep.DeepCutAuto
import Derived.Test.YtikbeiafobnblaaKQ10
namespace Go.Proofs.Ytikbeiafobnblaa
section
open Go.ChangeShapes Go.WideShapes Go.ChangeAt Go.RowKit Go.Deep
set_option maxHeartbeats 400000 in
theorem i_isResidue (n : Int) (w : World) : Calls Try.prog 111 #[.int .i64 n] w fun e w' => e = .returned (.bool (isRes n)) ∧ w = w' := by
 go_enter Try.func111, Try.ntmps111
 go_wp2_with fail
 refine (i_InRange _ _ _ _).mono ?_
 rintro e w1 ⟨rfl, rfl⟩
 go_wp2_with fail
 go_ret
 exact ⟨rfl, rfl⟩
set_option maxHeartbeats 400000 in
theorem i_AddMod (b s : Int) (w : World) : Calls Try.prog 126 #[.int .i64 b, .int .i64 s] w fun e w' => e = .returned (.int .i64 (addMod b s)) ∧ w = w' := by
 go_enter Try.func126, Try.ntmps126
 go_wp2_with fail
 refine (i_isResidue _ _).mono ?_
 rintro e w1 ⟨rfl, rfl⟩
 cases h1 : isRes b
 ·
  have HE := Lib.hid (addMod_no1 (s := s) h1)
  go_wp2_with fail
  go_ret
  exact ⟨ret_int HE.out.symm, rfl⟩
 ·
  go_wp2_with fail
  refine (i_isResidue _ _).mono ?_
  rintro e w1 ⟨rfl, rfl⟩
  cases h2 : isRes s
  ·
   have HE := Lib.hid (addMod_no2 (b := b) h2)
   go_wp2_with fail
   go_ret
   exact ⟨ret_int HE.out.symm, rfl⟩
  ·
   have HE := Lib.hid (addMod_yes h1 h2)
   obtain ⟨a1, a2⟩ := isRes_true.1 h1
   obtain ⟨a3, a4⟩ := isRes_true.1 h2
   go_wp2_with fail
   go_ret
   exact ⟨ret_int HE.out.symm, rfl⟩
end
section
open Go.ChangeShapes Go.WideShapes Go.ChangeAt Go.RowKit Go.Deep
set_option maxHeartbeats 400000 in
theorem i_copyHops (l : List Hop) (v : Value) (w : World) (hv : RdS Hop.rep w v l) (hl : l.length ≤ 1048576) :
  Calls Try.prog 113 #[v] w fun e w' => ∃ v', e = .returned v' ∧ OwnF Hop.f 5 w.heap.size 146 w' v' l ∧ Ext w w' := by
 obtain ⟨E⟩ := elemHop
 go_enter Try.func113, Try.ntmps113
 go_wp2_with (at_builtin; refine appS E Hop.flen Hop.one rfl _ _ rfl l rfl (OwnF.empty Hop.f 5 w.heap.size _ w (Nat.le_refl _)) rfl (hv.ext ((Ext.refl _).alloc _)) (by first | omega | (simp; omega)) (by first | (unfold maxLen; omega) | (simp [maxLen]; omega)) (by simp) ?_)
 intro v' w' ho' hg'
 have hx' : Ext w w' := ((Ext.refl w).alloc _).app hg' (OwnF.empty Hop.f 5 w.heap.size 146 w (Nat.le_refl _)) (Nat.le_refl _)
 try rw [List.nil_append] at ho'
 clear hg'
 go_wp2
 go_ret
 exact ⟨_, rfl, ho', hx'⟩
end
section
open Go.ChangeShapes Go.WideShapes Go.ChangeAt Go.RowKit Go.Deep
set_option maxHeartbeats 400000 in
theorem l_at (code : List Int) (v : Value) (i : Int) (w : World) (hr : RdS Rep.byte w v code) (hu : ∀ x ∈ code, U8 x) (h0 : 0 ≤ i) (h1 : i ≤ 1048576) (hl : code.length ≤ 1048576) :
  Calls Try.prog 21 #[v, .int .i64 i] w fun e w' => ∃ r : Int, e = .returned (.int .i64 r) ∧ 0 ≤ r ∧ r ≤ 255 ∧ w = w' := by
 obtain ⟨o, cap, rfl, hsm⟩ := hr.shape
 obtain ⟨k, rfl⟩ := Int.eq_ofNat_of_zero_le h0
 go_enter Try.func21, Try.ntmps21
 by_cases hlt : k < code.length
 ·
  obtain ⟨b, off, rfl, hcell⟩ := bytes_at hr k hlt
  obtain ⟨hu0, hu1⟩ := hu code[k] (List.getElem_mem _)
  go_wp2
  go_ret
  exact ⟨_, rfl, by omega, by omega, rfl⟩
 ·
  go_wp2
  go_ret
  exact ⟨_, rfl, by omega, by omega, rfl⟩
end
end Go.Proofs.Ytikbeiafobnblaa
