/- Contract of turning a part around, reference. No condition but the bounds that each theorem names. -/
import Derived.Test.YtjjoijidlgkimaaW30r
namespace Go.Proofs.Ytjjoijidlgkimaa
open Go.ChangeShapes Go.WideShapes Go.ChangeAt Go.RowKit Go.Deep

theorem blk_set4 {w : World} {b : Nat} {x0 x1 x2 x3 : Value} {t : TypeId} {f : Nat × Nat} (h : w.heap[b]? = some (.cells #[x0, x1, x2, x3] t f)) (y0 y1 y2 y3 : Value) :
    ((((w.setCell ⟨b, 0, none⟩ y0).setCell ⟨b, 1, none⟩ y1).setCell ⟨b, 2, none⟩ y2).setCell ⟨b, 3, none⟩ y3).heap[b]? = some (.cells #[y0, y1, y2, y3] t f) := by
  have := blk_set (blk_set (blk_set (blk_set h 0 y0) 1 y1) 2 y2) 3 y3
  simpa using this
theorem ext_set4 {a w : World} (h : Ext a w) {b : Nat} (hb : a.heap.size ≤ b) (y0 y1 y2 y3 : Value) : Ext a ((((w.setCell ⟨b, 0, none⟩ y0).setCell ⟨b, 1, none⟩ y1).setCell ⟨b, 2, none⟩ y2).setCell ⟨b, 3, none⟩ y3) :=
  (((h.setCell hb _).setCell hb _).setCell hb _).setCell hb _
set_option maxRecDepth 100000 in
set_option maxHeartbeats 4000000 in
theorem s_ReversePart (x : Part) (v : Value) (w : World) (r : RdS Hop.rep w v x.hops) (hl : x.size ≤ 1048576) :
    Calls Try.prog 156 #[.agg #[.int .i64 x.kind, .int .i64 x.ts, .int .i64 x.beta, v]] w fun e w' => ∃ u, e = .returned (.agg #[.int .i64 (revPart x).kind, .int .i64 (revPart x).ts, .int .i64 (revPart x).beta, u]) ∧ OwnF Hop.f 5 w.heap.size 136 w' u (revPart x).hops ∧ Ext w w' := by
  unfold Part.size at hl
  obtain ⟨o, cap, rfl, hsm⟩ := r.shape
  obtain ⟨E⟩ := elemHop
  have hx0 := ext2 w (.cells #[.int .i64 x.kind, .int .i64 x.ts, .int .i64 x.beta, .slice o x.hops.length cap] 134) (.cells #[.int .i64 0, .int .i64 0, .int .i64 0, .slice none 0 0] 134)
  have hB := al2 w (.cells #[.int .i64 x.kind, .int .i64 x.ts, .int .i64 x.beta, .slice o x.hops.length cap] 134) (.cells #[.int .i64 0, .int .i64 0, .int .i64 0, .slice none 0 0] 134)
  have HB := Lib.hid hB; clear hB
  go_enter Try.func156, Try.ntmps156
  go_upto_region 1 with (fail)
  go_cut [3] (fun v3 wx => ∃ B3, v3 = .pointer (some ⟨B3, 0, none⟩) ∧ wx.heap[B3]? = some (.cells #[.int .i64 (revKind x.kind), .int .i64 x.ts, .int .i64 (betaAfter x x.hops.length), .slice none 0 0] 134) ∧ w.heap.size + 1 + 1 ≤ B3 ∧ Ext ((w.alloc (.cells #[.int .i64 x.kind, .int .i64 x.ts, .int .i64 x.beta, .slice o x.hops.length cap] 134)).alloc (.cells #[.int .i64 0, .int .i64 0, .int .i64 0, .slice none 0 0] 134)) wx)
  case first =>
    refine planStep (.blk [0, 1, 3, 4, 5, 6, 7, 8] (.two 2 11 (.two 9 11 (.blk [10] (.one 11 (.one 12 .done))) (.one 9 (.blk [10] (.one 12 .done)))) (.one 2 (.one 9 (.blk [10] (.one 12 .done)))))) [12] (by kernel_rfl) (by kernel_rfl) ?_
    refine blkStep (fun K HK => ?_)
    simp only [pick, List.filterMap_cons, List.filterMap_nil, List.getElem?_toArray, List.getElem?_cons_zero, List.getElem?_cons_succ]
    go_wp2_with fail
    refine HK.out _ _ ?_
    clear HK K

    refine twoStep ?_ ?_
    · refine oneStep (fun K HK => ?_)
      simp only [pick, List.filterMap_cons, List.filterMap_nil, List.getElem?_toArray, List.getElem?_cons_zero, List.getElem?_cons_succ]
      go_wp2_with fail
      refine (s_ReverseKind x.kind _).mono ?_
      rintro e w1 ⟨rfl, h1⟩
      go_wp2_with fail
      refine HK.out _ _ (h1) ?_
      clear HK K
      refine twoStep ?_ ?_
      · refine oneStep (fun K HK => ?_)
        simp only [pick, List.filterMap_cons, List.filterMap_nil, List.getElem?_toArray, List.getElem?_cons_zero, List.getElem?_cons_succ]
        go_wp2_with fail
        refine (s_BetaAfter x _ _ _ (r.ext (hx0.drew.trans h1))).mono ?_
        rintro e w2 ⟨rfl, h2⟩
        go_wp2_with fail
        refine HK.out _ _ (h2) ?_
        clear HK K
        refine blkStep (fun K HK => ?_)
        simp only [pick, List.filterMap_cons, List.filterMap_nil, List.getElem?_toArray, List.getElem?_cons_zero, List.getElem?_cons_succ]
        go_wp2_with fail
        refine HK.out _ _ ?_
        clear HK K
        refine oneStep (fun K HK => ?_)
        simp only [pick, List.filterMap_cons, List.filterMap_nil, List.getElem?_toArray, List.getElem?_cons_zero, List.getElem?_cons_succ]
        go_wp2_with fail
        refine HK.out _ _ ((Ext.refl _).alloc _) ?_
        clear HK K
        refine badStep (by kernel_rfl) (fun K HK => ?_)
        simp only [pick, List.filterMap_cons, List.filterMap_nil, List.getElem?_toArray, List.getElem?_cons_zero, List.getElem?_cons_succ]
        go_wp2_with fail
        refine HK.out _ _ ?_
        clear HK K
        refine doneStep (by kernel_rfl) ?_
        go_wp2_with fail
        go_meet
        exact ⟨_, rfl, blk_new w2 _, by have := (((Ext.refl ((w.alloc (.cells #[.int .i64 x.kind, .int .i64 x.ts, .int .i64 x.beta, .slice o x.hops.length cap] 134)).alloc (.cells #[.int .i64 0, .int .i64 0, .int .i64 0, .slice none 0 0] 134))).drew.trans h1).trans h2).size; simpa using this, (((Ext.refl ((w.alloc (.cells #[.int .i64 x.kind, .int .i64 x.ts, .int .i64 x.beta, .slice o x.hops.length cap] 134)).alloc (.cells #[.int .i64 0, .int .i64 0, .int .i64 0, .slice none 0 0] 134))).drew.trans h1).trans h2).alloc _⟩

      · have hb1 := blk_new w1 (.cells #[.int .i64 0, .int .i64 0, .int .i64 0, .slice none 0 0] 134)
        have HB1 := Lib.hid hb1; clear hb1
        refine oneStep (fun K HK => ?_)
        simp only [pick, List.filterMap_cons, List.filterMap_nil, List.getElem?_toArray, List.getElem?_cons_zero, List.getElem?_cons_succ]
        go_wp2_with fail
        refine HK.out _ _ ((Ext.refl _).alloc _) ?_
        clear HK K
        refine oneStep (fun K HK => ?_)
        simp only [pick, List.filterMap_cons, List.filterMap_nil, List.getElem?_toArray, List.getElem?_cons_zero, List.getElem?_cons_succ]
        go_wp2_with fail
        refine (s_BetaAfter x _ _ _ (r.ext ((hx0.drew.trans h1).alloc _))).mono ?_
        rintro e w2 ⟨rfl, h2⟩
        go_wp2_with fail
        refine HK.out _ _ (h2) ?_
        clear HK K
        refine blkStep (fun K HK => ?_)
        simp only [pick, List.filterMap_cons, List.filterMap_nil, List.getElem?_toArray, List.getElem?_cons_zero, List.getElem?_cons_succ]
        go_wp2_with fail
        refine HK.out _ _ ?_
        clear HK K
        have hb2 := h2.block HB1.out
        have c2 := blk4 hb2
        have f20 := fr_of hb2 0
        have f21 := fr_of hb2 1
        have f22 := fr_of hb2 2
        have f23 := fr_of hb2 3
        have HB2 := Lib.hid hb2; clear hb2
        refine badStep (by kernel_rfl) (fun K HK => ?_)
        simp only [pick, List.filterMap_cons, List.filterMap_nil, List.getElem?_toArray, List.getElem?_cons_zero, List.getElem?_cons_succ]
        go_wp2_with fail
        refine HK.out _ _ ?_
        clear HK K
        refine doneStep (by kernel_rfl) ?_
        go_wp2_with fail
        go_meet
        exact ⟨_, rfl, blk_set4 HB2.out _ _ _ _, by have := ((Ext.refl ((w.alloc (.cells #[.int .i64 x.kind, .int .i64 x.ts, .int .i64 x.beta, .slice o x.hops.length cap] 134)).alloc (.cells #[.int .i64 0, .int .i64 0, .int .i64 0, .slice none 0 0] 134))).drew.trans h1).size; simpa using this, ext_set4 ((((Ext.refl ((w.alloc (.cells #[.int .i64 x.kind, .int .i64 x.ts, .int .i64 x.beta, .slice o x.hops.length cap] 134)).alloc (.cells #[.int .i64 0, .int .i64 0, .int .i64 0, .slice none 0 0] 134))).drew.trans h1).alloc _).trans h2) ((Ext.refl ((w.alloc (.cells #[.int .i64 x.kind, .int .i64 x.ts, .int .i64 x.beta, .slice o x.hops.length cap] 134)).alloc (.cells #[.int .i64 0, .int .i64 0, .int .i64 0, .slice none 0 0] 134))).drew.trans h1).size _ _ _ _⟩

    · have hb1 := blk_new ((w.alloc (.cells #[.int .i64 x.kind, .int .i64 x.ts, .int .i64 x.beta, .slice o x.hops.length cap] 134)).alloc (.cells #[.int .i64 0, .int .i64 0, .int .i64 0, .slice none 0 0] 134)) (.cells #[.int .i64 0, .int .i64 0, .int .i64 0, .slice none 0 0] 134)
      simp only [nblk_alloc] at hb1
      have HB1 := Lib.hid hb1; clear hb1
      refine oneStep (fun K HK => ?_)
      simp only [pick, List.filterMap_cons, List.filterMap_nil, List.getElem?_toArray, List.getElem?_cons_zero, List.getElem?_cons_succ]
      go_wp2_with fail
      refine HK.out _ _ ((Ext.refl _).alloc _) ?_
      clear HK K
      refine oneStep (fun K HK => ?_)
      simp only [pick, List.filterMap_cons, List.filterMap_nil, List.getElem?_toArray, List.getElem?_cons_zero, List.getElem?_cons_succ]
      go_wp2_with fail
      refine (s_ReverseKind x.kind _).mono ?_
      rintro e w1 ⟨rfl, h1⟩
      go_wp2_with fail
      refine HK.out _ _ (h1) ?_
      clear HK K
      refine oneStep (fun K HK => ?_)
      simp only [pick, List.filterMap_cons, List.filterMap_nil, List.getElem?_toArray, List.getElem?_cons_zero, List.getElem?_cons_succ]
      go_wp2_with fail
      refine (s_BetaAfter x _ _ _ (r.ext ((hx0.drew.alloc _).trans h1))).mono ?_
      rintro e w2 ⟨rfl, h2⟩
      go_wp2_with fail
      refine HK.out _ _ (h2) ?_
      clear HK K
      refine blkStep (fun K HK => ?_)
      simp only [pick, List.filterMap_cons, List.filterMap_nil, List.getElem?_toArray, List.getElem?_cons_zero, List.getElem?_cons_succ]
      go_wp2_with fail
      refine HK.out _ _ ?_
      clear HK K
      have hb2 := h2.block (h1.block HB1.out)
      have c2 := blk4 hb2
      have f20 := fr_of hb2 0
      have f21 := fr_of hb2 1
      have f22 := fr_of hb2 2
      have f23 := fr_of hb2 3
      have HB2 := Lib.hid hb2; clear hb2
      refine badStep (by kernel_rfl) (fun K HK => ?_)
      simp only [pick, List.filterMap_cons, List.filterMap_nil, List.getElem?_toArray, List.getElem?_cons_zero, List.getElem?_cons_succ]
      go_wp2_with fail
      refine HK.out _ _ ?_
      clear HK K
      refine doneStep (by kernel_rfl) ?_
      go_wp2_with fail
      go_meet
      exact ⟨_, rfl, blk_set4 HB2.out _ _ _ _, Nat.le_refl _, ext_set4 ((((Ext.refl ((w.alloc (.cells #[.int .i64 x.kind, .int .i64 x.ts, .int .i64 x.beta, .slice o x.hops.length cap] 134)).alloc (.cells #[.int .i64 0, .int .i64 0, .int .i64 0, .slice none 0 0] 134))).drew.alloc _).trans h1).trans h2) (by simp) _ _ _ _⟩

  case rest =>
    obtain ⟨B3, rfl, hb3, hle3, hxc⟩ := hcut
    have HB3 := Lib.hid hb3; clear hb3
    have hlt3 : B3 < wc.heap.size := blk_lt HB3.out
    have HBX := Lib.hid (hxc.block HB.out.1)
    have hcb := blk4 HBX.out
    go_wp2
    clear hcb
    go_loopg [4] x.hops.length (fun gk i wr => i = .int .i64 ((gk : Int) - 1) ∧ gk ≤ x.hops.length ∧ (∃ ok ck, Hid (wr.heap[B3]? = some (.cells #[.int .i64 (revKind x.kind), .int .i64 x.ts, .int .i64 (betaAfter x x.hops.length), .slice ok (x.hops.length - gk) ck] 134)) ∧ OwnF Hop.f 5 wc.heap.size 136 wr (.slice ok (x.hops.length - gk) ck) (x.hops.drop gk).reverse) ∧ wc.heap.size ≤ wr.heap.size ∧ Ext ((w.alloc (.cells #[.int .i64 x.kind, .int .i64 x.ts, .int .i64 x.beta, .slice o x.hops.length cap] 134)).alloc (.cells #[.int .i64 0, .int .i64 0, .int .i64 0, .slice none 0 0] 134)) wr)
    case atStart =>
      refine ⟨rfl, Nat.le_refl _, ⟨none, 0, ?_, ?_⟩, Nat.le_refl _, hxc⟩
      · rw [Nat.sub_self]; exact HB3
      · rw [Nat.sub_self, List.drop_length]; exact OwnF.nil _ _ _ _ _
    case round =>
      obtain ⟨rfl, hk, ⟨ok, ck, HBk, hown⟩, hsw, hx⟩ := hrel
      have hcb := blk4 (hx.block HB.out.1)
      have hc3 := blk4 HBk.out
      cases gk with
      | zero =>
        have hcr := blk4 (hx.block HB.out.2)
        have g0 := fr_of (hx.block HB.out.2) 0
        have g1 := fr_of (hx.block HB.out.2) 1
        have g2 := fr_of (hx.block HB.out.2) 2
        have g3 := fr_of (hx.block HB.out.2) 3
        have hsz := hxc.size
        simp only [nblk_alloc] at hsz
        go_wp2
        refine bodyPost_ret (v := .agg #[.int .i64 (revKind x.kind), .int .i64 x.ts, .int .i64 (betaAfter x x.hops.length), .slice ok (x.hops.length - 0) ck]) (by simp [results, Try.results156, go_sem, hcr]) rfl ⟨_, rfl, ?_, ?_⟩
        · exact (((((hown.set (by simp; omega) _).set (by simp; omega) _).set (by simp; omega) _).set (by simp; omega) _)).mono (by omega)
        · exact ((((hx0.trans hx).setCell (by simp) _).setCell (by simp) _).setCell (by simp) _).setCell (by simp) _
      | succ j =>
        have hj : j < x.hops.length := by omega
        obtain ⟨b, off, rfl, hc⟩ := Hop.at (r.ext (hx0.trans hx)) j hj
        have e1 : (((j + 1 : Nat) : Int) - 1) = (j : Int) := by omega
        rw [e1]
        clear e1
        have hln : (x.hops.drop (j + 1)).reverse.length + 1 ≤ 1048576 := by simp; omega
        have HE := Lib.hid (rev_drop hj)
        have hle : (x.hops.drop j).reverse.length = (x.hops.drop (j + 1)).reverse.length + 1 := by simp; omega
        have HLE := Lib.hid hle; clear hle
        generalize (x.hops.drop (j + 1)).reverse = out at *
        have hj0 : (0 : Int) ≤ (j : Int) := Int.natCast_nonneg _
        have hj1 : (j : Int) < (x.hops.length : Int) := by omega
        go_wp2_with fail
        refine planStep (.blk [0, 1, 2, 3, 4, 5, 6] (.one 7 (.one 8 (.blk [9] (.one 10 .done))))) [8, 10] (by kernel_rfl) (by kernel_rfl) ?_

        refine blkStep (fun K HK => ?_)
        simp only [pick, List.filterMap_cons, List.filterMap_nil, List.getElem?_toArray, List.getElem?_cons_zero, List.getElem?_cons_succ]
        go_wp2_with fail
        refine HK.out _ _ ?_
        clear HK K

        refine oneStep (fun K HK => ?_)
        simp only [pick, List.filterMap_cons, List.filterMap_nil, List.getElem?_toArray, List.getElem?_cons_zero, List.getElem?_cons_succ]
        go_wp2_with fail
        refine HK.out _ _ ((Ext.refl _).alloc _) ?_
        clear HK K
        refine badStep (by kernel_rfl) (fun K HK => ?_)
        simp only [pick, List.filterMap_cons, List.filterMap_nil, List.getElem?_toArray, List.getElem?_cons_zero, List.getElem?_cons_succ]

        refine app1 E Hop.flen Hop.one rfl _ _ rfl x.hops[j] rfl (OwnF.ext hown ((Ext.refl _).drew.alloc _)) rfl (by exact blk_list x.hops[j].f (blk_new wr _)) (by omega) (by unfold maxLen; omega) (by exact Nat.le_trans hsw ((Ext.refl wr).drew.alloc _).size) ?_
        intro v' w' ho' hg'
        have hsw' : wc.heap.size ≤ w'.heap.size := Nat.le_trans (Nat.le_trans hsw ((Ext.refl wr).drew.alloc _).size) hg'.size
        have hx' := Ext.app (hx.drew.alloc _) hg' hown hxc.size
        have hb3' := own_ne (OwnF.ext hown ((Ext.refl _).drew.alloc _)) (Ext.block ((Ext.refl _).drew.alloc _) HBk.out) (by decide) hg'
        rw [HE.out] at ho'
        obtain ⟨on, cn, hve, _⟩ := (OwnF.rd (hf := Hop.flen) ho').shape
        rw [show (x.hops.drop j).reverse.length = x.hops.length - j from by simp] at hve
        subst hve
        have c3' := blk4 hb3'
        have f3' := fr_of hb3' 3
        have hb4 := blk_set hb3' 3 (.slice on (x.hops.length - j) cn)
        simp only [List.setIfInBounds_toArray, List.set_cons_succ, List.set_cons_zero] at hb4
        have HB4 := Lib.hid hb4; clear hb4 hb3'
        have hx4 := hx'.setCell (p := ⟨B3, 3, none⟩) (by simp; omega) (.slice on (x.hops.length - j) cn)
        have HO4 := Lib.hid (ho'.set (p := ⟨B3, 3, none⟩) (by simpa using hlt3) (.slice on (x.hops.length - j) cn))
        clear hg' ho'
        go_wp2_with fail
        refine HK.out _ _ ?_
        clear HK K
        refine blkStep (fun K HK => ?_)
        simp only [pick, List.filterMap_cons, List.filterMap_nil, List.getElem?_toArray, List.getElem?_cons_zero, List.getElem?_cons_succ]
        go_wp2_with fail
        refine HK.out _ _ ?_
        clear HK K

        refine badStep (by kernel_rfl) (fun K HK => ?_)
        simp only [pick, List.filterMap_cons, List.filterMap_nil, List.getElem?_toArray, List.getElem?_cons_zero, List.getElem?_cons_succ]

        go_wp2_with fail
        refine HK.out _ _ ?_
        clear HK K
        refine doneStep (by kernel_rfl) ?_

        go_wp2_with fail
        go_roundg j
        case measure => omega
        case rel => exact ⟨rfl, by omega, ⟨on, cn, HB4, HO4.out⟩, by simpa using hsw', hx4⟩

end Go.Proofs.Ytjjoijidlgkimaa
