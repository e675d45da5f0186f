/- What these laws need: FnFlips, FnForwards, FnHopsPassed: Contracts of the interfaces that paths use and of what revocations affect, program and reference. -/
import Derived.Test.YtikbeiafobnblaaGreatKR6
namespace Go.Proofs.YtikbeiafobnblaaGreat
section
open Go.ChangeShapes Go.WideShapes Go.ChangeAt Go.RowKit Go.Deep
set_option maxHeartbeats 4000000 in
theorem s_InterfacesUsed (x : Pth) (v : Value) (w : World) (r : RdS Part.rep w v x.parts) (hl : x.size ≤ 1048576) :
  Calls Tryz.prog 168 #[.agg #[v]] w fun e w' => ∃ v', e = .returned v' ∧ OwnF intF 1 w.heap.size 3 w' v' (usedIfs (pathSteps x.parts)) ∧ Ext w w' := by
 obtain ⟨E⟩ := elemInt
 have hps := pathSteps_len x.parts
 have hx0 : Ext w ((w.alloc (.cells #[v] 26)).alloc (.cells #[] 3)) := ((Ext.refl _).alloc _).alloc _
 have ho0 := (OwnF.empty intF 1 (w.alloc (.cells #[v] 26)).heap.size 3 (w.alloc (.cells #[v] 26)) (Nat.le_refl _)).mono ((Ext.refl w).alloc (.cells #[v] 26)).size
 simp only [nblk_alloc] at ho0
 go_enter Tryz.func168, Tryz.ntmps168
 go_wp2_with fail
 refine (s_PathSteps x _ _ (r.ext hx0) hl).mono ?_
 rintro e w1 ⟨v1, rfl, o1, h1⟩
 have hx1 := hx0.trans h1
 have ho1 := ho0.ext h1
 have os1 := o1.mono hx0.size
 have hlS : (pathSteps x.parts).length ≤ 1048576 := by unfold Pth.size at hl; omega
 clear ho0 hx0 o1 hps
 obtain ⟨o, cap, rfl, hsm⟩ := (OwnF.rd (hf := Step.flen) os1).shape
 generalize hL : pathSteps x.parts = l at *
 have HL := Lib.hid hL; clear hL
 go_wp2
 go_loopg [3, 5] l.length (fun gk out i wr => ∃ k : Nat, gk + k = l.length ∧ i = .int .i64 k ∧ OwnF intF 1 w.heap.size 3 wr out (usedIfs (l.take k)) ∧ OwnF Step.f 3 w.heap.size 123 wr (.slice o l.length cap) l ∧ Ext w wr)
 case atStart => exact ⟨0, rfl, rfl, ho1, os1, hx1⟩
 case round =>
  obtain ⟨k, hgk, rfl, hown, hos, hx⟩ := hrel
  have hln : (usedIfs (l.take k)).length ≤ 2 * k := Nat.le_trans (usedIfs_len _) (by have := List.length_take_le k l; omega)
  by_cases hlt : k < l.length
  ·
   obtain ⟨g, cap', hv', _, _⟩ := hos.some_shape (by omega)
   cases hv'
   have hc := Step.own_at hos k hlt
   have hg' : gk - 1 + (k + 1) = l.length ∧ gk - 1 < gk := by omega
   have HG := Lib.hid hg'; clear hg' hgk
   have HS := Lib.hid (usedIfs_snoc hlt)
   generalize usedIfs (l.take k) = out at *
   cases h1 : (l[k].ing != 0)
   ·
    cases h2 : (l[k].eg != 0)
    ·
     have HE := Lib.hid (HS.out.trans (by rw [stepIfs_00 h1 h2, List.append_nil]))
     go_wp2_with fail
     go_roundg (gk - 1)
     case measure => exact HG.out.2
     case rel => exact ⟨k + 1, HG.out.1, by go_num, by rw [HE.out]; exact hown, hos, hx⟩
    ·
     have HE := Lib.hid (HS.out.trans (by rw [stepIfs_01 h1 h2]))
     go_wp2_with fail
     refine planStep (.blk [0, 1, 2, 3, 4, 5, 6, 7, 8, 9, 10, 11, 12] (.one 13 (.one 14 (.blk [15] .done)))) [14] (by kernel_rfl) (by kernel_rfl) ?_
     refine blkStep (fun K HK => ?_)
     simp only [PK]
     go_wp2_with fail
     refine HK.out _ _ ?_
     clear HK K
     refine oneStep (fun K HK => ?_)
     simp only [PK]
     go_wp2_with fail
     refine HK.out _ _ ((Ext.refl _).alloc _) ?_
     clear HK K
     refine badStep (by kernel_rfl) (fun K HK => ?_)
     simp only [PK]
     refine app1 E intFlen intOne rfl _ _ rfl (ifNum l[k].asn l[k].eg) rfl (OwnF.ext hown ((Ext.refl _).drew.alloc _)) rfl (by exact blk_list (intF (ifNum l[k].asn l[k].eg)) (blk_new wr _)) (by omega) (by unfold maxLen; omega) (by exact (hx.drew.alloc _).size) ?_
     intro v1 w1 ho1 hg1
     have hx1 := Ext.app (hx.drew.alloc _) hg1 hown (Nat.le_refl _)
     have os1 := OwnF.keptT (OwnF.ext hos ((Ext.refl _).drew.alloc _)) (OwnF.ext hown ((Ext.refl _).drew.alloc _)) (by decide) hg1
     clear hg1
     go_wp2_with fail
     refine HK.out _ _ ?_
     clear HK K
     refine blkStep (fun K HK => ?_)
     simp only [PK]
     go_wp2_with fail
     refine HK.out _ _ ?_
     clear HK K
     refine doneStep (by kernel_rfl) ?_

     rw [← HE.out] at ho1
     go_wp2_with fail
     go_roundg (gk - 1)
     case measure => exact HG.out.2
     case rel => exact ⟨k + 1, HG.out.1, by go_num, ho1, os1, hx1⟩

   ·
    cases h2 : (l[k].eg != 0)
    ·
     have HE := Lib.hid (HS.out.trans (by rw [stepIfs_10 h1 h2]))
     go_wp2_with fail
     refine planStep (.blk [0, 1, 2, 3, 4, 5, 6, 7, 8, 9, 10, 11, 12] (.one 13 (.one 14 (.blk [15] .done)))) [14] (by kernel_rfl) (by kernel_rfl) ?_
     refine blkStep (fun K HK => ?_)
     simp only [PK]
     go_wp2_with fail
     refine HK.out _ _ ?_
     clear HK K
     refine oneStep (fun K HK => ?_)
     simp only [PK]
     go_wp2_with fail
     refine HK.out _ _ ((Ext.refl _).alloc _) ?_
     clear HK K
     refine badStep (by kernel_rfl) (fun K HK => ?_)
     simp only [PK]
     refine app1 E intFlen intOne rfl _ _ rfl (ifNum l[k].asn l[k].ing) rfl (OwnF.ext hown ((Ext.refl _).drew.alloc _)) rfl (by exact blk_list (intF (ifNum l[k].asn l[k].ing)) (blk_new wr _)) (by omega) (by unfold maxLen; omega) (by exact (hx.drew.alloc _).size) ?_
     intro v1 w1 ho1 hg1
     have hx1 := Ext.app (hx.drew.alloc _) hg1 hown (Nat.le_refl _)
     have os1 := OwnF.keptT (OwnF.ext hos ((Ext.refl _).drew.alloc _)) (OwnF.ext hown ((Ext.refl _).drew.alloc _)) (by decide) hg1
     clear hg1
     go_wp2_with fail
     refine HK.out _ _ ?_
     clear HK K
     refine blkStep (fun K HK => ?_)
     simp only [PK]
     go_wp2_with fail
     refine HK.out _ _ ?_
     clear HK K
     refine doneStep (by kernel_rfl) ?_

     rw [← HE.out] at ho1
     have hc1 := Step.own_at os1 k hlt
     go_wp2_with fail
     go_roundg (gk - 1)
     case measure => exact HG.out.2
     case rel => exact ⟨k + 1, HG.out.1, by go_num, ho1, os1, hx1⟩

    ·
     have HE := Lib.hid (HS.out.trans (by rw [stepIfs_11 h1 h2, ← List.append_assoc]))
     go_wp2_with fail
     refine planStep (.blk [0, 1, 2, 3, 4, 5, 6, 7, 8, 9, 10, 11, 12] (.one 13 (.one 14 (.blk [15] .done)))) [14] (by kernel_rfl) (by kernel_rfl) ?_
     refine blkStep (fun K HK => ?_)
     simp only [PK]
     go_wp2_with fail
     refine HK.out _ _ ?_
     clear HK K
     refine oneStep (fun K HK => ?_)
     simp only [PK]
     go_wp2_with fail
     refine HK.out _ _ ((Ext.refl _).alloc _) ?_
     clear HK K
     refine badStep (by kernel_rfl) (fun K HK => ?_)
     simp only [PK]
     refine app1 E intFlen intOne rfl _ _ rfl (ifNum l[k].asn l[k].ing) rfl (OwnF.ext hown ((Ext.refl _).drew.alloc _)) rfl (by exact blk_list (intF (ifNum l[k].asn l[k].ing)) (blk_new wr _)) (by omega) (by unfold maxLen; omega) (by exact (hx.drew.alloc _).size) ?_
     intro v1 w1 ho1 hg1
     have hx1 := Ext.app (hx.drew.alloc _) hg1 hown (Nat.le_refl _)
     have os1 := OwnF.keptT (OwnF.ext hos ((Ext.refl _).drew.alloc _)) (OwnF.ext hown ((Ext.refl _).drew.alloc _)) (by decide) hg1
     clear hg1
     go_wp2_with fail
     refine HK.out _ _ ?_
     clear HK K
     refine blkStep (fun K HK => ?_)
     simp only [PK]
     go_wp2_with fail
     refine HK.out _ _ ?_
     clear HK K
     refine doneStep (by kernel_rfl) ?_

     have hl1 : (out ++ [ifNum l[k].asn l[k].ing]).length = out.length + 1 := by simp
     have hc1 := Step.own_at os1 k hlt
     clear hc
     go_wp2_with fail
     refine planStep (.blk [0, 1, 2, 3, 4, 5, 6, 7, 8, 9, 10, 11, 12] (.one 13 (.one 14 (.blk [15] .done)))) [14] (by kernel_rfl) (by kernel_rfl) ?_
     refine blkStep (fun K HK => ?_)
     simp only [PK]
     go_wp2_with fail
     refine HK.out _ _ ?_
     clear HK K
     refine oneStep (fun K HK => ?_)
     simp only [PK]
     go_wp2_with fail
     refine HK.out _ _ ((Ext.refl _).alloc _) ?_
     clear HK K
     refine badStep (by kernel_rfl) (fun K HK => ?_)
     simp only [PK]
     refine app1 E intFlen intOne rfl _ _ rfl (ifNum l[k].asn l[k].eg) rfl (OwnF.ext ho1 ((Ext.refl _).drew.alloc _)) rfl (by exact blk_list (intF (ifNum l[k].asn l[k].eg)) (blk_new w1 _)) (by omega) (by unfold maxLen; omega) (by exact (hx1.drew.alloc _).size) ?_
     intro v2 w2 ho2 hg2
     have hx2 := Ext.app (hx1.drew.alloc _) hg2 ho1 (Nat.le_refl _)
     have os2 := OwnF.keptT (OwnF.ext os1 ((Ext.refl _).drew.alloc _)) (OwnF.ext ho1 ((Ext.refl _).drew.alloc _)) (by decide) hg2
     clear hg2
     go_wp2_with fail
     refine HK.out _ _ ?_
     clear HK K
     refine blkStep (fun K HK => ?_)
     simp only [PK]
     go_wp2_with fail
     refine HK.out _ _ ?_
     clear HK K
     refine doneStep (by kernel_rfl) ?_

     rw [← HE.out] at ho2
     go_wp2_with fail
     go_roundg (gk - 1)
     case measure => exact HG.out.2
     case rel => exact ⟨k + 1, HG.out.1, by go_num, ho2, os2, hx2⟩

  ·
   rw [List.take_of_length_le (by omega)] at hown
   go_wp2
   go_ret
   rw [HL.out]
   exact ⟨_, rfl, hown, hx⟩
end
end Go.Proofs.YtikbeiafobnblaaGreat
