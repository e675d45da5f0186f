/- Contracts of the functions that encode numbers, program and reference. No condition but the bounds that each theorem names. -/
import Derived.Test.YtiabfgebfjmplaaGreatW01
import Derived.Test.YtiabfgebfjmplaaGreatTyByte
import Derived.Test.YtiabfgebfjmplaaGreatTyInt
import Derived.Test.YtiabfgebfjmplaaGreatPlain02
namespace Go.Proofs.YtiabfgebfjmplaaGreat
open Go.ChangeShapes Go.WideShapes Go.ChangeAt Go.RowKit Go.Deep

set_option maxHeartbeats 400000 in
theorem i_copyBytes (l : List Int) (v : Value) (w : World) (hv : RdS Rep.byte w v l) (hl : l.length ≤ 1099511627776) :
    Calls Tryz.prog 89 #[v] w fun e w' => ∃ v', e = .returned v' ∧ OwnF byteF 1 w.heap.size 5 w' v' l ∧ Ext w w' := by
  obtain ⟨E⟩ := elemByte
  go_enter Tryz.func89, Tryz.ntmps89
  go_wp2_with (at_builtin; refine appS E byteFlen byteOne rfl _ _ rfl l rfl (OwnF.empty byteF 1 w.heap.size _ w (Nat.le_refl _)) rfl (hv.ext ((Ext.refl _).alloc _)) (by simp; omega) (by simp [maxLen]; omega) (by simp) ?_)
  intro v' w' ho' hg'
  have hx' : Ext w w' := ((Ext.refl w).alloc _).app hg' (OwnF.empty byteF 1 w.heap.size 5 w (Nat.le_refl _)) (Nat.le_refl _)
  try rw [List.nil_append] at ho'
  clear hg'
  go_wp2
  go_ret
  exact ⟨_, rfl, ho', hx'⟩




end Go.Proofs.YtiabfgebfjmplaaGreat
