/- What these laws need: FnReplies: Contracts of putting a number into an ascending list, program and reference. -/
import Derived.Test.YtikbeiafobnblaaGreatKR5
import Derived.Test.YtikbeiafobnblaaGreatKR42
namespace Go.Proofs.YtikbeiafobnblaaGreat
section
open Go.ChangeShapes Go.WideShapes Go.ChangeAt Go.RowKit Go.Deep
set_option maxHeartbeats 400000 in
theorem i_copyInts (l : List Int) (v : Value) (w : World) (hv : RdS Rep.int w v l) (hl : l.length ≤ 1099511627776) :
  Calls Tryz.prog 281 #[v] w fun e w' => ∃ v', e = .returned v' ∧ OwnF intF 1 w.heap.size 3 w' v' l ∧ Ext w w' := by
 obtain ⟨E⟩ := elemInt
 go_enter Tryz.func281, Tryz.ntmps281
 go_wp2_with (at_builtin; refine appS E intFlen intOne rfl _ _ rfl l rfl (OwnF.empty intF 1 w.heap.size _ w (Nat.le_refl _)) rfl (hv.ext ((Ext.refl _).alloc _)) (by first | omega | (simp; omega)) (by first | (unfold maxLen; omega) | (simp [maxLen]; omega)) (by simp) ?_)
 intro v' w' ho' hg'
 have hx' : Ext w w' := ((Ext.refl w).alloc _).app hg' (OwnF.empty intF 1 w.heap.size 3 w (Nat.le_refl _)) (Nat.le_refl _)
 try rw [List.nil_append] at ho'
 clear hg'
 go_wp2
 go_ret
 exact ⟨_, rfl, ho', hx'⟩
set_option maxRecDepth 100000 in
set_option maxHeartbeats 4000000 in
theorem i_insertInt (l : List Int) (v : Value) (n : Int) (base : Nat) (w : World) (hown : OwnF intF 1 base 3 w v l) (hb : base ≤ w.heap.size) (hl : l.length ≤ 1099511627000) :
  Calls Tryz.prog 255 #[v, .int .i64 n] w fun e w' => ∃ v', e = .returned v' ∧ OwnF intF 1 base 3 w' v' (insInt n l) ∧ Ext w w' := by
 obtain ⟨E⟩ := elemInt
 rcases hown.2 with ⟨rfl, hn⟩ | ⟨g, cap, cur, rfl, hbg, hg, hnc, hcm, _, _⟩
 ·
  have hl0 := List.eq_nil_of_length_eq_zero hn
  clear hown hn
  obtain ⟨k, hk⟩ : ∃ k : Nat, k = 0 := ⟨0, rfl⟩
  have hins : insInt n l = (l.take k ++ [n]) ++ l.drop k := by rw [hl0, hk]; rfl
  have HH : Hid (RdS Rep.int w (.slice none 0 0) (l.take k) ∧ RdS Rep.int w (.slice none 0 0) (l.drop k)) := Lib.hid (by rw [hl0, hk]; exact ⟨RdS.nil Rep.int w, RdS.nil Rep.int w⟩)
  clear hl0 hk
  go_enter Tryz.func255, Tryz.ntmps255
  go_wp2
  refine wp_loop_rounds 1 ?_; rw [rounds_succ]
  have HI := Lib.hid hins; clear hins
  go_wp2_with fail
  refine planStep (.blk [0, 1, 2, 4, 7, 8, 9] (.two 3 5 (.one 5 (.one 6 (.one 10 (.blk [11] .done)))) (.one 3 (.one 6 (.one 10 (.blk [11] .done)))))) [6, 10] (by kernel_rfl) (by kernel_rfl) ?_
  refine blkStep (fun K HK => ?_)
  simp only [PK]
  go_wp2_with fail
  refine HK.out _ _ ?_
  clear HK K
  refine twoStep ?_ ?_
  ·
   refine oneStep (fun K HK => ?_)
   simp only [PK]
   go_wp2_with fail
   refine (i_copyInts (l.take k) _ _ (HH.out.1.ext (Ext.refl w).drew) (by simp only [List.length_take]; omega)).mono ?_
   rintro e w1 ⟨v1, rfl, o1, h1⟩
   have hx1 : Ext w w1 := (Ext.refl w).drew.trans h1
   go_wp2_with fail
   refine HK.out _ _ (h1) ?_
   clear HK K
   refine oneStep (fun K HK => ?_)
   simp only [PK]
   go_wp2_with fail
   refine HK.out _ _ ((Ext.refl _).alloc _) ?_
   clear HK K
   refine badStep (by kernel_rfl) (fun K HK => ?_)
   simp only [PK]
   refine app1 E intFlen intOne rfl _ _ rfl n rfl (OwnF.ext o1 ((Ext.refl w1).alloc _)) rfl (by exact blk_list (intF n) (blk_new w1 _)) (by simp only [List.length_take]; omega) (by simp only [List.length_take, maxLen]; omega) (by exact (hx1.alloc _).size) ?_
   intro v3 w3 o3 hg3
   have hx3 : Ext w w3 := (hx1.alloc _).app hg3 o1 (Nat.le_refl _)
   clear hg3
   go_wp2_with fail
   refine HK.out _ _ ?_
   clear HK K
   refine badStep (by kernel_rfl) (fun K HK => ?_)
   simp only [PK]
   refine appS E intFlen intOne rfl _ _ rfl (l.drop k) rfl o3 rfl (HH.out.2.ext hx3) (by simp only [List.length_append, List.length_take, List.length_drop, List.length_cons, List.length_nil]; omega) (by simp only [List.length_append, List.length_take, List.length_drop, List.length_cons, List.length_nil, maxLen]; omega) hx3.size ?_
   intro v4 w4 o4 hg4
   have hx4 : Ext w w4 := hx3.app hg4 o3 (Nat.le_refl _)
   rw [← HI.out] at o4
   have o4' := o4.mono hb
   clear hg4 o4
   go_wp2_with fail
   refine HK.out _ _ ?_
   clear HK K
   refine blkStep (fun K HK => ?_)
   simp only [PK]
   go_wp2_with fail
   refine HK.out _ _ ?_
   clear HK K
   refine doneStep (by kernel_rfl) ?_
   go_wp2_with fail
   go_ret
   exact ⟨_, rfl, o4', hx4⟩
  ·
   refine oneStep (fun K HK => ?_)
   simp only [PK]
   go_wp2_with fail
   refine HK.out _ _ ((Ext.refl _).alloc _) ?_
   clear HK K
   refine oneStep (fun K HK => ?_)
   simp only [PK]
   go_wp2_with fail
   refine (i_copyInts (l.take k) _ _ (HH.out.1.ext ((Ext.refl w).drew.alloc _)) (by simp only [List.length_take]; omega)).mono ?_
   rintro e w1 ⟨v1, rfl, o1, h1⟩
   have hx1 : Ext w w1 := ((Ext.refl w).drew.alloc _).trans h1
   go_wp2_with fail
   refine HK.out _ _ (h1) ?_
   clear HK K
   refine badStep (by kernel_rfl) (fun K HK => ?_)
   simp only [PK]
   refine app1 E intFlen intOne rfl _ _ rfl n rfl (o1.mono (base' := w.heap.size) (by simp)) rfl (by exact blk_list (intF n) (h1.block (blk_new w.drew _))) (by simp only [List.length_take]; omega) (by simp only [List.length_take, maxLen]; omega) hx1.size ?_
   intro v3 w3 o3 hg3
   have hx3 : Ext w w3 := hx1.app hg3 (o1.mono (base' := w.heap.size) (by simp)) (Nat.le_refl _)
   clear hg3
   go_wp2_with fail
   refine HK.out _ _ ?_
   clear HK K
   refine badStep (by kernel_rfl) (fun K HK => ?_)
   simp only [PK]
   refine appS E intFlen intOne rfl _ _ rfl (l.drop k) rfl o3 rfl (HH.out.2.ext hx3) (by simp only [List.length_append, List.length_take, List.length_drop, List.length_cons, List.length_nil]; omega) (by simp only [List.length_append, List.length_take, List.length_drop, List.length_cons, List.length_nil, maxLen]; omega) hx3.size ?_
   intro v4 w4 o4 hg4
   have hx4 : Ext w w4 := hx3.app hg4 o3 (Nat.le_refl _)
   rw [← HI.out] at o4
   have o4' := o4.mono hb
   clear hg4 o4
   go_wp2_with fail
   refine HK.out _ _ ?_
   clear HK K
   refine blkStep (fun K HK => ?_)
   simp only [PK]
   go_wp2_with fail
   refine HK.out _ _ ?_
   clear HK K
   refine doneStep (by kernel_rfl) ?_
   go_wp2_with fail
   go_ret
   exact ⟨_, rfl, o4', hx4⟩
 ·
  clear hg hcm
  go_enter Tryz.func255, Tryz.ntmps255
  go_wp2
  go_loop [5] (fun i => ∃ k : Nat, k ≤ l.length ∧ i = .int .i64 k ∧ below n l k) (fun i => l.length - (intOf i).toNat)
  case atStart => exact ⟨0, Nat.zero_le _, rfl, below_zero _ _⟩
  case round =>
   obtain ⟨k, hk, rfl, hbl⟩ := hrel
   have HBL := Lib.hid hbl; clear hbl
   have HH := Lib.hid (halves hown k hk)
   by_cases hlt : k < l.length
   ·
    have hc := ints_own_at hown k hlt
    by_cases hx : l[k] < n
    ·
     go_wp2
     go_round
     case rel => exact ⟨k + 1, by omega, by go_num, below_succ HBL.out hlt hx⟩
     case measure => simp [intOf]; omega
    ·
     by_cases he : l[k] = n
     ·
      have hi := insInt_hit HBL.out hlt he
      have HI := Lib.hid hi; clear hi
      have he2 : (l[k] == n) = true := by simpa using he
      clear he
      go_wp2
      go_ret
      rw [HI.out]
      exact ⟨_, rfl, hown, Ext.refl _⟩
     ·
      have hins := insInt_put HBL.out hk (fun _ => by omega)
      have he2 : (l[k] == n) = false := by simpa using he
      clear he
      have HI := Lib.hid hins; clear hins
      go_wp2_with fail
      refine planStep (.blk [0, 1, 2, 4, 7, 8, 9] (.two 3 5 (.one 5 (.one 6 (.one 10 (.blk [11] .done)))) (.one 3 (.one 6 (.one 10 (.blk [11] .done)))))) [6, 10] (by kernel_rfl) (by kernel_rfl) ?_
      refine blkStep (fun K HK => ?_)
      simp only [PK]
      go_wp2_with fail
      refine HK.out _ _ ?_
      clear HK K
      refine twoStep ?_ ?_
      ·
       refine oneStep (fun K HK => ?_)
       simp only [PK]
       go_wp2_with fail
       refine (i_copyInts (l.take k) _ _ (HH.out.1.ext (Ext.refl w).drew) (by simp only [List.length_take]; omega)).mono ?_
       rintro e w1 ⟨v1, rfl, o1, h1⟩
       have hx1 : Ext w w1 := (Ext.refl w).drew.trans h1
       go_wp2_with fail
       refine HK.out _ _ (h1) ?_
       clear HK K
       refine oneStep (fun K HK => ?_)
       simp only [PK]
       go_wp2_with fail
       refine HK.out _ _ ((Ext.refl _).alloc _) ?_
       clear HK K
       refine badStep (by kernel_rfl) (fun K HK => ?_)
       simp only [PK]
       refine app1 E intFlen intOne rfl _ _ rfl n rfl (OwnF.ext o1 ((Ext.refl w1).alloc _)) rfl (by exact blk_list (intF n) (blk_new w1 _)) (by simp only [List.length_take]; omega) (by simp only [List.length_take, maxLen]; omega) (by exact (hx1.alloc _).size) ?_
       intro v3 w3 o3 hg3
       have hx3 : Ext w w3 := (hx1.alloc _).app hg3 o1 (Nat.le_refl _)
       clear hg3
       go_wp2_with fail
       refine HK.out _ _ ?_
       clear HK K
       refine badStep (by kernel_rfl) (fun K HK => ?_)
       simp only [PK]
       refine appS E intFlen intOne rfl _ _ rfl (l.drop k) rfl o3 rfl (HH.out.2.ext hx3) (by simp only [List.length_append, List.length_take, List.length_drop, List.length_cons, List.length_nil]; omega) (by simp only [List.length_append, List.length_take, List.length_drop, List.length_cons, List.length_nil, maxLen]; omega) hx3.size ?_
       intro v4 w4 o4 hg4
       have hx4 : Ext w w4 := hx3.app hg4 o3 (Nat.le_refl _)
       rw [← HI.out] at o4
       have o4' := o4.mono hb
       clear hg4 o4
       go_wp2_with fail
       refine HK.out _ _ ?_
       clear HK K
       refine blkStep (fun K HK => ?_)
       simp only [PK]
       go_wp2_with fail
       refine HK.out _ _ ?_
       clear HK K
       refine doneStep (by kernel_rfl) ?_
       go_wp2_with fail
       go_ret
       exact ⟨_, rfl, o4', hx4⟩
      ·
       refine oneStep (fun K HK => ?_)
       simp only [PK]
       go_wp2_with fail
       refine HK.out _ _ ((Ext.refl _).alloc _) ?_
       clear HK K
       refine oneStep (fun K HK => ?_)
       simp only [PK]
       go_wp2_with fail
       refine (i_copyInts (l.take k) _ _ (HH.out.1.ext ((Ext.refl w).drew.alloc _)) (by simp only [List.length_take]; omega)).mono ?_
       rintro e w1 ⟨v1, rfl, o1, h1⟩
       have hx1 : Ext w w1 := ((Ext.refl w).drew.alloc _).trans h1
       go_wp2_with fail
       refine HK.out _ _ (h1) ?_
       clear HK K
       refine badStep (by kernel_rfl) (fun K HK => ?_)
       simp only [PK]
       refine app1 E intFlen intOne rfl _ _ rfl n rfl (o1.mono (base' := w.heap.size) (by simp)) rfl (by exact blk_list (intF n) (h1.block (blk_new w.drew _))) (by simp only [List.length_take]; omega) (by simp only [List.length_take, maxLen]; omega) hx1.size ?_
       intro v3 w3 o3 hg3
       have hx3 : Ext w w3 := hx1.app hg3 (o1.mono (base' := w.heap.size) (by simp)) (Nat.le_refl _)
       clear hg3
       go_wp2_with fail
       refine HK.out _ _ ?_
       clear HK K
       refine badStep (by kernel_rfl) (fun K HK => ?_)
       simp only [PK]
       refine appS E intFlen intOne rfl _ _ rfl (l.drop k) rfl o3 rfl (HH.out.2.ext hx3) (by simp only [List.length_append, List.length_take, List.length_drop, List.length_cons, List.length_nil]; omega) (by simp only [List.length_append, List.length_take, List.length_drop, List.length_cons, List.length_nil, maxLen]; omega) hx3.size ?_
       intro v4 w4 o4 hg4
       have hx4 : Ext w w4 := hx3.app hg4 o3 (Nat.le_refl _)
       rw [← HI.out] at o4
       have o4' := o4.mono hb
       clear hg4 o4
       go_wp2_with fail
       refine HK.out _ _ ?_
       clear HK K
       refine blkStep (fun K HK => ?_)
       simp only [PK]
       go_wp2_with fail
       refine HK.out _ _ ?_
       clear HK K
       refine doneStep (by kernel_rfl) ?_
       go_wp2_with fail
       go_ret
       exact ⟨_, rfl, o4', hx4⟩
   ·
    have hins := insInt_put HBL.out hk (fun h => absurd h hlt)
    by_cases hkc : k < cap
    ·
     skip
     have HI := Lib.hid hins; clear hins
     go_wp2_with fail
     refine planStep (.blk [0, 1, 2, 4, 7, 8, 9] (.two 3 5 (.one 5 (.one 6 (.one 10 (.blk [11] .done)))) (.one 3 (.one 6 (.one 10 (.blk [11] .done)))))) [6, 10] (by kernel_rfl) (by kernel_rfl) ?_
     refine blkStep (fun K HK => ?_)
     simp only [PK]
     go_wp2_with fail
     refine HK.out _ _ ?_
     clear HK K
     refine twoStep ?_ ?_
     ·
      refine oneStep (fun K HK => ?_)
      simp only [PK]
      go_wp2_with fail
      refine (i_copyInts (l.take k) _ _ (HH.out.1.ext (Ext.refl w).drew) (by simp only [List.length_take]; omega)).mono ?_
      rintro e w1 ⟨v1, rfl, o1, h1⟩
      have hx1 : Ext w w1 := (Ext.refl w).drew.trans h1
      go_wp2_with fail
      refine HK.out _ _ (h1) ?_
      clear HK K
      refine oneStep (fun K HK => ?_)
      simp only [PK]
      go_wp2_with fail
      refine HK.out _ _ ((Ext.refl _).alloc _) ?_
      clear HK K
      refine badStep (by kernel_rfl) (fun K HK => ?_)
      simp only [PK]
      refine app1 E intFlen intOne rfl _ _ rfl n rfl (OwnF.ext o1 ((Ext.refl w1).alloc _)) rfl (by exact blk_list (intF n) (blk_new w1 _)) (by simp only [List.length_take]; omega) (by simp only [List.length_take, maxLen]; omega) (by exact (hx1.alloc _).size) ?_
      intro v3 w3 o3 hg3
      have hx3 : Ext w w3 := (hx1.alloc _).app hg3 o1 (Nat.le_refl _)
      clear hg3
      go_wp2_with fail
      refine HK.out _ _ ?_
      clear HK K
      refine badStep (by kernel_rfl) (fun K HK => ?_)
      simp only [PK]
      refine appS E intFlen intOne rfl _ _ rfl (l.drop k) rfl o3 rfl (HH.out.2.ext hx3) (by simp only [List.length_append, List.length_take, List.length_drop, List.length_cons, List.length_nil]; omega) (by simp only [List.length_append, List.length_take, List.length_drop, List.length_cons, List.length_nil, maxLen]; omega) hx3.size ?_
      intro v4 w4 o4 hg4
      have hx4 : Ext w w4 := hx3.app hg4 o3 (Nat.le_refl _)
      rw [← HI.out] at o4
      have o4' := o4.mono hb
      clear hg4 o4
      go_wp2_with fail
      refine HK.out _ _ ?_
      clear HK K
      refine blkStep (fun K HK => ?_)
      simp only [PK]
      go_wp2_with fail
      refine HK.out _ _ ?_
      clear HK K
      refine doneStep (by kernel_rfl) ?_
      go_wp2_with fail
      go_ret
      exact ⟨_, rfl, o4', hx4⟩
     ·
      refine oneStep (fun K HK => ?_)
      simp only [PK]
      go_wp2_with fail
      refine HK.out _ _ ((Ext.refl _).alloc _) ?_
      clear HK K
      refine oneStep (fun K HK => ?_)
      simp only [PK]
      go_wp2_with fail
      refine (i_copyInts (l.take k) _ _ (HH.out.1.ext ((Ext.refl w).drew.alloc _)) (by simp only [List.length_take]; omega)).mono ?_
      rintro e w1 ⟨v1, rfl, o1, h1⟩
      have hx1 : Ext w w1 := ((Ext.refl w).drew.alloc _).trans h1
      go_wp2_with fail
      refine HK.out _ _ (h1) ?_
      clear HK K
      refine badStep (by kernel_rfl) (fun K HK => ?_)
      simp only [PK]
      refine app1 E intFlen intOne rfl _ _ rfl n rfl (o1.mono (base' := w.heap.size) (by simp)) rfl (by exact blk_list (intF n) (h1.block (blk_new w.drew _))) (by simp only [List.length_take]; omega) (by simp only [List.length_take, maxLen]; omega) hx1.size ?_
      intro v3 w3 o3 hg3
      have hx3 : Ext w w3 := hx1.app hg3 (o1.mono (base' := w.heap.size) (by simp)) (Nat.le_refl _)
      clear hg3
      go_wp2_with fail
      refine HK.out _ _ ?_
      clear HK K
      refine badStep (by kernel_rfl) (fun K HK => ?_)
      simp only [PK]
      refine appS E intFlen intOne rfl _ _ rfl (l.drop k) rfl o3 rfl (HH.out.2.ext hx3) (by simp only [List.length_append, List.length_take, List.length_drop, List.length_cons, List.length_nil]; omega) (by simp only [List.length_append, List.length_take, List.length_drop, List.length_cons, List.length_nil, maxLen]; omega) hx3.size ?_
      intro v4 w4 o4 hg4
      have hx4 : Ext w w4 := hx3.app hg4 o3 (Nat.le_refl _)
      rw [← HI.out] at o4
      have o4' := o4.mono hb
      clear hg4 o4
      go_wp2_with fail
      refine HK.out _ _ ?_
      clear HK K
      refine blkStep (fun K HK => ?_)
      simp only [PK]
      go_wp2_with fail
      refine HK.out _ _ ?_
      clear HK K
      refine doneStep (by kernel_rfl) ?_
      go_wp2_with fail
      go_ret
      exact ⟨_, rfl, o4', hx4⟩
    ·
     obtain rfl : k = cap := by omega
     have HH := Lib.hid (halvesEnd hown (by omega))
     have HI := Lib.hid hins; clear hins
     go_wp2_with fail
     refine planStep (.blk [0, 1, 2, 4, 7, 8, 9] (.two 3 5 (.one 5 (.one 6 (.one 10 (.blk [11] .done)))) (.one 3 (.one 6 (.one 10 (.blk [11] .done)))))) [6, 10] (by kernel_rfl) (by kernel_rfl) ?_
     refine blkStep (fun K HK => ?_)
     simp only [PK]
     go_wp2_with fail
     refine HK.out _ _ ?_
     clear HK K
     refine twoStep ?_ ?_
     ·
      refine oneStep (fun K HK => ?_)
      simp only [PK]
      go_wp2_with fail
      refine (i_copyInts (l.take k) _ _ (HH.out.1.ext (Ext.refl w).drew) (by simp only [List.length_take]; omega)).mono ?_
      rintro e w1 ⟨v1, rfl, o1, h1⟩
      have hx1 : Ext w w1 := (Ext.refl w).drew.trans h1
      go_wp2_with fail
      refine HK.out _ _ (h1) ?_
      clear HK K
      refine oneStep (fun K HK => ?_)
      simp only [PK]
      go_wp2_with fail
      refine HK.out _ _ ((Ext.refl _).alloc _) ?_
      clear HK K
      refine badStep (by kernel_rfl) (fun K HK => ?_)
      simp only [PK]
      refine app1 E intFlen intOne rfl _ _ rfl n rfl (OwnF.ext o1 ((Ext.refl w1).alloc _)) rfl (by exact blk_list (intF n) (blk_new w1 _)) (by simp only [List.length_take]; omega) (by simp only [List.length_take, maxLen]; omega) (by exact (hx1.alloc _).size) ?_
      intro v3 w3 o3 hg3
      have hx3 : Ext w w3 := (hx1.alloc _).app hg3 o1 (Nat.le_refl _)
      clear hg3
      go_wp2_with fail
      refine HK.out _ _ ?_
      clear HK K
      refine badStep (by kernel_rfl) (fun K HK => ?_)
      simp only [PK]
      refine appS E intFlen intOne rfl _ _ rfl (l.drop k) rfl o3 rfl (HH.out.2.ext hx3) (by simp only [List.length_append, List.length_take, List.length_drop, List.length_cons, List.length_nil]; omega) (by simp only [List.length_append, List.length_take, List.length_drop, List.length_cons, List.length_nil, maxLen]; omega) hx3.size ?_
      intro v4 w4 o4 hg4
      have hx4 : Ext w w4 := hx3.app hg4 o3 (Nat.le_refl _)
      rw [← HI.out] at o4
      have o4' := o4.mono hb
      clear hg4 o4
      go_wp2_with fail
      refine HK.out _ _ ?_
      clear HK K
      refine blkStep (fun K HK => ?_)
      simp only [PK]
      go_wp2_with fail
      refine HK.out _ _ ?_
      clear HK K
      refine doneStep (by kernel_rfl) ?_
      go_wp2_with fail
      go_ret
      exact ⟨_, rfl, o4', hx4⟩
     ·
      refine oneStep (fun K HK => ?_)
      simp only [PK]
      go_wp2_with fail
      refine HK.out _ _ ((Ext.refl _).alloc _) ?_
      clear HK K
      refine oneStep (fun K HK => ?_)
      simp only [PK]
      go_wp2_with fail
      refine (i_copyInts (l.take k) _ _ (HH.out.1.ext ((Ext.refl w).drew.alloc _)) (by simp only [List.length_take]; omega)).mono ?_
      rintro e w1 ⟨v1, rfl, o1, h1⟩
      have hx1 : Ext w w1 := ((Ext.refl w).drew.alloc _).trans h1
      go_wp2_with fail
      refine HK.out _ _ (h1) ?_
      clear HK K
      refine badStep (by kernel_rfl) (fun K HK => ?_)
      simp only [PK]
      refine app1 E intFlen intOne rfl _ _ rfl n rfl (o1.mono (base' := w.heap.size) (by simp)) rfl (by exact blk_list (intF n) (h1.block (blk_new w.drew _))) (by simp only [List.length_take]; omega) (by simp only [List.length_take, maxLen]; omega) hx1.size ?_
      intro v3 w3 o3 hg3
      have hx3 : Ext w w3 := hx1.app hg3 (o1.mono (base' := w.heap.size) (by simp)) (Nat.le_refl _)
      clear hg3
      go_wp2_with fail
      refine HK.out _ _ ?_
      clear HK K
      refine badStep (by kernel_rfl) (fun K HK => ?_)
      simp only [PK]
      refine appS E intFlen intOne rfl _ _ rfl (l.drop k) rfl o3 rfl (HH.out.2.ext hx3) (by simp only [List.length_append, List.length_take, List.length_drop, List.length_cons, List.length_nil]; omega) (by simp only [List.length_append, List.length_take, List.length_drop, List.length_cons, List.length_nil, maxLen]; omega) hx3.size ?_
      intro v4 w4 o4 hg4
      have hx4 : Ext w w4 := hx3.app hg4 o3 (Nat.le_refl _)
      rw [← HI.out] at o4
      have o4' := o4.mono hb
      clear hg4 o4
      go_wp2_with fail
      refine HK.out _ _ ?_
      clear HK K
      refine blkStep (fun K HK => ?_)
      simp only [PK]
      go_wp2_with fail
      refine HK.out _ _ ?_
      clear HK K
      refine doneStep (by kernel_rfl) ?_
      go_wp2_with fail
      go_ret
      exact ⟨_, rfl, o4', hx4⟩
end
end Go.Proofs.YtikbeiafobnblaaGreat
