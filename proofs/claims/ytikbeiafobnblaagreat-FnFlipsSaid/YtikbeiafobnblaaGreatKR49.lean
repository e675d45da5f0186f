/- What these laws need: FnFlips: Contracts of the ends of paths, program and reference. -/
import Derived.Test.YtikbeiafobnblaaGreatKR32
namespace Go.Proofs.YtikbeiafobnblaaGreat
section
open Go.ChangeShapes Go.WideShapes Go.ChangeAt Go.RowKit Go.Deep
set_option maxHeartbeats 1000000 in
theorem i_OppositeEndpoints (x : Pth) (v : Value) (y : Pth) (u : Value) (w : World) (r : RdS Part.rep w v x.parts) (s : RdS Part.rep w u y.parts) (hl : x.size ≤ 1048576) (hm : y.size ≤ 1048576) :
  Calls Tryz.prog 42 #[.agg #[v], .agg #[u]] w fun e w' => e = .returned (.bool (oppEnds x y)) ∧ Ext w w' := by
 have hx0 := ext2 w (.cells #[v] 26) (.cells #[u] 26)
 have hB := (al2 w (.cells #[v] 26) (.cells #[u] 26)).2
 have HB := Lib.hid hB; clear hB
 go_enter Tryz.func42, Tryz.ntmps42
 go_wp2_with fail
 refine (i_Endpoints x _ _ (r.ext hx0) hl).mono ?_
 rintro e w1 ⟨rfl, h1⟩
 have hx1 := hx0.trans h1
 have hc := blk1 (h1.block HB.out)
 go_wp2_with fail
 refine (i_Endpoints y _ _ (s.ext hx1) hm).mono ?_
 rintro e w2 ⟨rfl, h2⟩
 have hx2 := hx1.trans h2
 have hop : oppEnds x y = ((ends x.parts).1 == (ends y.parts).2 && (ends x.parts).2 == (ends y.parts).1) := rfl
 have HOP := Lib.hid hop; clear hop
 generalize ends x.parts = a at *
 generalize ends y.parts = b at *
 obtain ⟨a1, a2⟩ := a
 obtain ⟨b1, b2⟩ := b
 dsimp only at HOP ⊢
 cases h5 : (a1 == b2)
 ·
  rw [h5] at HOP
  go_wp2_with fail
  go_ret
  rw [HOP.out]
  exact ⟨rfl, hx2⟩
 ·
  rw [h5] at HOP
  go_wp2_with fail
  go_ret
  rw [HOP.out]
  exact ⟨rfl, hx2⟩
set_option maxHeartbeats 1000000 in
theorem s_OppositeEndpoints (x : Pth) (v : Value) (y : Pth) (u : Value) (w : World) (r : RdS Part.rep w v x.parts) (s : RdS Part.rep w u y.parts) (hl : x.size ≤ 1048576) (hm : y.size ≤ 1048576) :
  Calls Tryz.prog 43 #[.agg #[v], .agg #[u]] w fun e w' => e = .returned (.bool (oppEnds x y)) ∧ Ext w w' := by
 have hx0 := ext2 w (.cells #[v] 26) (.cells #[u] 26)
 have hB := (al2 w (.cells #[v] 26) (.cells #[u] 26)).2
 have HB := Lib.hid hB; clear hB
 go_enter Tryz.func43, Tryz.ntmps43
 go_wp2_with fail
 refine (s_Endpoints x _ _ (r.ext hx0) hl).mono ?_
 rintro e w1 ⟨rfl, h1⟩
 have hx1 := hx0.trans h1
 have hc := blk1 (h1.block HB.out)
 go_wp2_with fail
 refine (s_Endpoints y _ _ (s.ext hx1) hm).mono ?_
 rintro e w2 ⟨rfl, h2⟩
 have hx2 := hx1.trans h2
 have hop : oppEnds x y = ((ends x.parts).1 == (ends y.parts).2 && (ends x.parts).2 == (ends y.parts).1) := rfl
 have HOP := Lib.hid hop; clear hop
 generalize ends x.parts = a at *
 generalize ends y.parts = b at *
 obtain ⟨a1, a2⟩ := a
 obtain ⟨b1, b2⟩ := b
 dsimp only at HOP ⊢
 cases h5 : (a1 == b2)
 ·
  rw [h5] at HOP
  go_wp2_with fail
  go_ret
  rw [HOP.out]
  exact ⟨rfl, hx2⟩
 ·
  rw [h5] at HOP
  go_wp2_with fail
  go_ret
  rw [HOP.out]
  exact ⟨rfl, hx2⟩
end
end Go.Proofs.YtikbeiafobnblaaGreat
