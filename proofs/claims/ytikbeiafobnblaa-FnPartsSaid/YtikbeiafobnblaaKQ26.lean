/- What these laws need: FnLeases, FnParts: Contracts of segments: their chaining values, codes and ASes; joins of segments. Parts made of segments, reference; the first and the last AS of a segment. The laws' own comparisons: what is the same compares as the same. -/
import Derived.Test.YtikbeiafobnblaaKQ15
import Derived.Test.YtikbeiafobnblaaKQ24
namespace Go.Proofs.Ytikbeiafobnblaa
section
open Go.ChangeShapes Go.WideShapes Go.ChangeAt Go.RowKit Go.Deep
theorem RdS.suf {α : Type} {r : Rep α} {w : World} {b off m cap : Nat} {l : List α} (h : RdS r w (.slice (some ⟨b, off, none⟩) m cap) l) (k : Nat) (hk : k ≤ l.length) :
  RdS r w (.slice (some ⟨b, off + k * r.cells, none⟩) (l.length - k) (cap - k)) (l.drop k) := by
 have := h.part k l.length hk (Nat.le_refl _)
 simpa using this
end
section
open Go.ChangeShapes Go.WideShapes Go.ChangeAt Go.RowKit Go.Deep
set_option maxRecDepth 100000 in
set_option maxHeartbeats 8000000 in
theorem s_MakePart (s : Seg) (v : Value) (kind k : Int) (w : World) (r : RdS Hop.rep w v s.hops) (hl : s.hops.length ≤ 1000) :
  Calls Try.prog 35 #[.agg #[.int .i64 s.ts, .int .i64 s.beta, v], .int .i64 kind, .int .i64 k] w fun e w' => ∃ u, e = .returned (.agg #[.int .i64 (makePart s kind k).kind, .int .i64 (makePart s kind k).ts, .int .i64 (makePart s kind k).beta, u]) ∧ OwnF Hop.f 5 w.heap.size 146 w' u (makePart s kind k).hops ∧ Ext w w' := by
 obtain ⟨o, cap, rfl, hsm⟩ := r.shape
 obtain ⟨E⟩ := elemHop
 have hcap := r.capLe
 have hx0 := ext2 w (.cells #[.int .i64 s.ts, .int .i64 s.beta, .slice o s.hops.length cap] 60) (.cells #[.int .i64 0, .int .i64 0, .int .i64 0, .slice none 0 0] 78)
 have HB := Lib.hid (al2 w (.cells #[.int .i64 s.ts, .int .i64 s.beta, .slice o s.hops.length cap] 60) (.cells #[.int .i64 0, .int .i64 0, .int .i64 0, .slice none 0 0] 78))
 go_enter Try.func35, Try.ntmps35
 have cb := blk3 HB.out.1
 have cz := blk4 HB.out.2
 go_wp2_with fail
 refine (s_l1In _ _ _ _).mono ?_
 rintro e _ ⟨rfl, rfl⟩
 cases hin : inR k 0 ((s.hops.length : Int) - 1)
 ·
  have hmp : makePart s kind k = ⟨0, 0, 0, []⟩ := by unfold makePart; rw [if_neg (by simp [hin])]
  have HMP := Lib.hid hmp
  clear hmp
  have g0 := fr_of HB.out.2 0
  have g1 := fr_of HB.out.2 1
  have g2 := fr_of HB.out.2 2
  have g3 := fr_of HB.out.2 3
  go_wp2_with fail
  refine bodyPost_ret (v := .agg #[.int .i64 0, .int .i64 0, .int .i64 0, .slice none 0 0]) (by simp [results, Try.results35, go_sem, cz]) rfl ⟨.slice none 0 0, ?_, ?_, ?_⟩
  ·
   rw [HMP.out]
  ·
   rw [HMP.out]; exact OwnF.nil _ _ _ _ _
  ·
   first | exact hx0 | exact (((hx0.setCell (by simp) _).setCell (by simp) _).setCell (by simp) _).setCell (by simp) _
 ·
  go_wp2_with fail
  refine (s_l1In _ _ _ _).mono ?_
  rintro e _ ⟨rfl, rfl⟩
  cases hik : inR kind 1 4
  ·
   have hmp : makePart s kind k = ⟨0, 0, 0, []⟩ := by unfold makePart; rw [if_neg (by simp [hin, hik])]
   have HMP := Lib.hid hmp
   clear hmp
   have g0 := fr_of HB.out.2 0
   have g1 := fr_of HB.out.2 1
   have g2 := fr_of HB.out.2 2
   have g3 := fr_of HB.out.2 3
   go_wp2_with fail
   refine bodyPost_ret (v := .agg #[.int .i64 0, .int .i64 0, .int .i64 0, .slice none 0 0]) (by simp [results, Try.results35, go_sem, cz]) rfl ⟨.slice none 0 0, ?_, ?_, ?_⟩
   ·
    rw [HMP.out]
   ·
    rw [HMP.out]; exact OwnF.nil _ _ _ _ _
   ·
    first | exact hx0 | exact (((hx0.setCell (by simp) _).setCell (by simp) _).setCell (by simp) _).setCell (by simp) _
  ·
   obtain ⟨h1, h2⟩ := inR_true.1 hin
   obtain ⟨kk, rfl⟩ := Int.eq_ofNat_of_zero_le h1
   have hk : kk < s.hops.length := by omega
   have hmp : makePart s kind kk = mkPart s kind kk := by unfold makePart; rw [if_pos (by simp [hin, hik]), Int.toNat_natCast]
   have HMP := Lib.hid hmp
   clear hmp hin hik h1 h2
   obtain ⟨b, off, rfl, _⟩ := Hop.at r 0 (by omega)
   go_upto_region 3 with (fail)
   clear cb cz
   obtain ⟨W0, hW0⟩ : ∃ W0 : World, W0 = ((w.alloc (.cells #[.int .i64 s.ts, .int .i64 s.beta, .slice (some ⟨b, off, none⟩) s.hops.length cap] 60)).alloc (.cells #[.int .i64 0, .int .i64 0, .int .i64 0, .slice none 0 0] 78)) := ⟨_, rfl⟩
   rw [← hW0] at HB hx0 ⊢
   have hs0 : W0.heap.size = w.heap.size + 2 := by rw [hW0]; simp
   clear hW0
   go_cut [7] (fun v7 wx => ∃ (B7 : Nat) (be : Int), v7 = .pointer (some ⟨B7, 0, none⟩) ∧ be = betaAt s kk ∧ wx.heap[B7]? = some (.cells #[.int .i64 kind, .int .i64 s.ts, .int .i64 be, .slice none 0 0] 78 (0, 0)) ∧ W0.heap.size ≤ B7 ∧ Ext W0 wx)
   case first =>
    have cb := blk3 HB.out.1
    refine planStep (.blk [0, 1, 2, 3, 4] (.two 5 7 (.blk [6] (.one 7 (.one 8 .done))) (.one 5 (.blk [6] (.one 8 .done))))) [8] (by kernel_rfl) (by kernel_rfl) ?_
    generalize hWd : W0.drew = wd
    have hxd : Ext W0 wd := by rw [← hWd]; exact (Ext.refl _).drew
    have cbd := blk3 (hxd.block HB.out.1)
    clear hWd cb
    refine blkStep (fun K HK => ?_)
    simp only [PK]
    go_wp2_with fail
    refine HK.out _ _ ?_
    clear HK K
    refine twoStep ?_ ?_
    ·
     refine oneStep (fun K HK => ?_)
     simp only [PK]
     go_wp2_with fail
     refine (s_BetaAt s _ (kk : Int) _ (r.ext (hx0.trans hxd)) (by omega)).mono ?_
     rintro e w1 ⟨rfl, h1⟩
     generalize hbe : betaAt s kk = be
     have HBE := Lib.hid hbe
     clear hbe
     go_wp2_with fail
     refine HK.out _ _ h1 ?_
     clear HK K
     refine blkStep (fun K HK => ?_)
     simp only [PK]
     go_wp2_with fail
     refine HK.out _ _ ?_
     clear HK K
     refine oneStep (fun K HK => ?_)
     simp only [PK]
     go_wp2_with fail
     refine HK.out _ _ ((Ext.refl _).alloc _) ?_
     clear HK K
     refine badStep (by kernel_rfl) (fun K HK => ?_)
     simp only [PK]
     go_wp2_with fail
     refine HK.out _ _ ?_
     clear HK K
     refine doneStep (by kernel_rfl) ?_
     go_wp2_with fail
     go_meet
     exact ⟨_, be, rfl, HBE.out.symm, blk_new w1 _, (hxd.trans h1).size, (hxd.trans h1).alloc _⟩
    ·
     have hbn := blk_new wd (.cells #[.int .i64 0, .int .i64 0, .int .i64 0, .slice none 0 0] 78)
     refine oneStep (fun K HK => ?_)
     simp only [PK]
     go_wp2_with fail
     refine HK.out _ _ ((Ext.refl _).alloc _) ?_
     clear HK K
     have hxa : Ext wd (wd.alloc (.cells #[.int .i64 0, .int .i64 0, .int .i64 0, .slice none 0 0] 78)) := (Ext.refl _).alloc _
     refine oneStep (fun K HK => ?_)
     simp only [PK]
     go_wp2_with fail
     refine (s_BetaAt s _ (kk : Int) _ (r.ext (hx0.trans (hxd.trans hxa))) (by omega)).mono ?_
     rintro e w1 ⟨rfl, h1⟩
     generalize hbe : betaAt s kk = be
     have HBE := Lib.hid hbe
     clear hbe
     go_wp2_with fail
     refine HK.out _ _ h1 ?_
     clear HK K
     refine blkStep (fun K HK => ?_)
     simp only [PK]
     go_wp2_with fail
     refine HK.out _ _ ?_
     clear HK K
     have hb7 := h1.block hbn
     have hlo := hxd.size
     have c7 := blk4 hb7
     have f70 := fr_of hb7 0
     have f71 := fr_of hb7 1
     have f72 := fr_of hb7 2
     have f73 := fr_of hb7 3
     have HH7 := Lib.hid hb7
     refine badStep (by kernel_rfl) (fun K HK => ?_)
     simp only [PK]
     go_wp2_with fail
     refine HK.out _ _ ?_
     clear HK K
     refine doneStep (by kernel_rfl) ?_
     go_wp2_with fail
     go_meet
     exact ⟨_, be, rfl, HBE.out.symm, blk_set4 HH7.out _ _ _ _, hlo, ext_set4 ((hxd.trans hxa).trans h1) hlo _ _ _ _⟩
   case rest =>
    obtain ⟨B7, be, rfl, hbe, hb7, hle7, hxc⟩ := hcut
    have HBE := Lib.hid hbe
    have HB7 := Lib.hid hb7
    clear hbe hb7
    have hlt7 : B7 < wc.heap.size := blk_lt HB7.out
    go_wp2_with fail
    refine (s_IsReversed kind _).mono ?_
    rintro e _ ⟨rfl, rfl⟩
    cases hrv : isRev kind
    ·
     have hmk : mkPart s kind kk = ⟨kind, s.ts, be, s.hops.drop kk⟩ := by unfold mkPart; rw [hrv, HBE.out]; simp
     rw [hmk] at HMP
     clear hmk
     have hcp2 : (kk : Int) ≤ cap := by omega
     have hcp3 : ¬ cap = kk := by omega
     obtain ⟨dl, hdl⟩ : ∃ dl, dl = s.hops.drop kk := ⟨_, rfl⟩
     have hdn : dl.length = s.hops.length - kk := by rw [hdl]; simp
     have hcb : dl.length ≤ 1000 := by omega
     have HDN := Lib.hid hdn
     clear hdn
     rw [← hdl] at HMP
     have HDL := Lib.hid hdl
     have cb := blk3 (hxc.block HB.out.1)
     have RS : RdS Hop.rep wc (.slice (some ⟨b, off + kk * 5, none⟩) (s.hops.length - kk) (cap - kk)) dl := by rw [hdl]; exact (r.ext (hx0.trans hxc)).suf kk (by omega)
     clear hdl
     have cb2 := blk3 (Ext.block (hxc.alloc (.cells #[] 146)) HB.out.1)
     go_wp2_with (at_builtin; refine appE E Hop.flen Hop.one rfl _ _ rfl dl rfl (OwnF.emptyAt (f := Hop.f) (n := 5) (base := wc.heap.size) (by simp) (by omega)) rfl (RS.ext ((Ext.refl _).alloc _)) (by omega) (by unfold maxLen; omega) (by simp) ?_)
     intro v' w' ho' hx'
     have hx2 : Ext wc w' := ((Ext.refl wc).alloc _).trans hx'
     have HO := Lib.hid ho'
     obtain ⟨oo, co, rfl, _⟩ := (OwnF.rd (hf := Hop.flen) ho').shape
     clear ho' cb cb2
     have hb7' := hx2.block HB7.out
     have c7 := blk4 hb7'
     have f73 := fr_of hb7' 3
     obtain ⟨w5, hw5, hb5, hc5⟩ := one_set hb7' 3 (.slice oo dl.length co)
     simp only [List.setIfInBounds_toArray, List.set_cons_succ, List.set_cons_zero] at hb5
     have HW5 := Lib.hid hw5
     clear hw5 hb7'
     go_upto_region 6 with (fail)
     rw [← HW5.out]
     clear HW5 c7 f73
     have ho5 := HO.out.chg hc5 (fun q hq e => by have h1 := (HO.out.block q hq).1; have h2 : q = B7 := e; omega)
     have hx5 : Ext W0 w5 := (hxc.trans hx2).chg hc5 (fun i hi => by have h1 : i = B7 := hi; omega)
     have c5 := blk4 hb5
     have hb6 := hx5.block HB.out.2
     have c6 := blk4 hb6
     have g0 := fr_of hb6 0
     have g1 := fr_of hb6 1
     have g2 := fr_of hb6 2
     have g3 := fr_of hb6 3
     clear HO
     go_wp2_with fail
     refine bodyPost_ret (v := .agg #[.int .i64 kind, .int .i64 s.ts, .int .i64 be, .slice oo dl.length co]) (by simp [results, Try.results35, go_sem, c6]) rfl ⟨.slice oo dl.length co, ?_, ?_, ?_⟩
     ·
      rw [HMP.out]
     ·
      rw [HMP.out]
      have hlo : w.heap.size + 1 < wc.heap.size := by omega
      exact (((((ho5.set (by simp; omega) _).set (by simp; omega) _).set (by simp; omega) _).set (by simp; omega) _)).mono (by omega)
     ·
      exact ((((hx0.trans hx5).setCell (by simp) _).setCell (by simp) _).setCell (by simp) _).setCell (by simp) _
    ·
     have hmk : mkPart s kind kk = ⟨kind, s.ts, betaAt s s.hops.length, (s.hops.drop kk).reverse⟩ := by unfold mkPart; rw [hrv]; simp
     rw [hmk] at HMP
     clear hmk
     have cb := blk3 (hxc.block HB.out.1)
     have c7 := blk4 HB7.out
     have f72 := fr_of HB7.out 2
     go_wp2_with fail
     refine (s_BetaAt s _ (s.hops.length : Int) _ (r.ext (hx0.trans hxc)) (by omega)).mono ?_
     rintro e w1 ⟨rfl, h1⟩
     generalize hb2 : betaAt s s.hops.length = b2
     have HB2 := Lib.hid hb2
     clear hb2 cb c7 f72
     have hb7' := h1.block HB7.out
     have cb := blk3 ((hxc.trans h1).block HB.out.1)
     have c7 := blk4 hb7'
     have f72 := fr_of hb7' 2
     obtain ⟨w5, hw5, hb5, hc5⟩ := one_set hb7' 2 (.int .i64 b2)
     simp only [List.setIfInBounds_toArray, List.set_cons_succ, List.set_cons_zero] at hb5
     have HW5 := Lib.hid hw5
     clear hw5 hb7'
     go_upto_region 8 with (fail)
     rw [← HW5.out]
     clear HW5 cb c7 f72
     have hx5 : Ext W0 w5 := (hxc.trans h1).chg hc5 (fun i hi => by have h1 : i = B7 := hi; omega)
     have hlt5 : B7 < w5.heap.size := blk_lt hb5
     have HB5 := Lib.hid hb5
     clear hb5 hc5 h1
     have cb := blk3 (hx5.block HB.out.1)
     go_wp2_with fail
     clear cb
     go_loopg [8] (s.hops.length - kk) (fun gk i wr => i = .int .i64 ((gk : Int) + kk - 1) ∧ gk + kk ≤ s.hops.length ∧ (∃ ok ck, Hid (wr.heap[B7]? = some (.cells #[.int .i64 kind, .int .i64 s.ts, .int .i64 b2, .slice ok (s.hops.length - (gk + kk)) ck] 78 (0, 0))) ∧ OwnF Hop.f 5 w5.heap.size 146 wr (.slice ok (s.hops.length - (gk + kk)) ck) (s.hops.drop (gk + kk)).reverse) ∧ w5.heap.size ≤ wr.heap.size ∧ Ext W0 wr)
     case atStart =>
      have e1 : s.hops.length - kk + kk = s.hops.length := by omega
      refine ⟨congrArg (Value.int .i64) (by omega), by omega, ⟨none, 0, ?_, ?_⟩, Nat.le_refl _, hx5⟩
      ·
       rw [e1, Nat.sub_self]; exact HB5
      ·
       rw [e1, Nat.sub_self, List.drop_length]; exact OwnF.nil _ _ _ _ _
     case round =>
      obtain ⟨rfl, hkl, ⟨ok, ck, HBk, hown⟩, hsw, hx⟩ := hrel
      have hcb := blk3 (hx.block HB.out.1)
      have hc3 := blk4 HBk.out
      cases gk with
      | zero =>
       have hcr := blk4 (hx.block HB.out.2)
       have g0 := fr_of (hx.block HB.out.2) 0
       have g1 := fr_of (hx.block HB.out.2) 1
       have g2 := fr_of (hx.block HB.out.2) 2
       have g3 := fr_of (hx.block HB.out.2) 3
       have hsz := hx5.size
       have e0 : ((0 : Nat) : Int) + (kk : Int) - 1 = (kk : Int) - 1 := by omega
       rw [e0]
       simp only [Nat.zero_add] at hc3 hown
       go_wp2
       refine bodyPost_ret (v := .agg #[.int .i64 kind, .int .i64 s.ts, .int .i64 b2, .slice ok (s.hops.length - kk) ck]) (by simp [results, Try.results35, go_sem, hcr]) rfl ⟨.slice ok (s.hops.length - kk) ck, ?_, ?_, ?_⟩
       ·
        rw [HMP.out, HB2.out]
       ·
        rw [HMP.out]
        exact (((((hown.set (by simp; omega) _).set (by simp; omega) _).set (by simp; omega) _).set (by simp; omega) _)).mono (by omega)
       ·
        exact ((((hx0.trans hx).setCell (by simp) _).setCell (by simp) _).setCell (by simp) _).setCell (by simp) _
      | succ j =>
       have hj : j + kk < s.hops.length := by omega
       obtain ⟨jj, hjj⟩ : ∃ jj, jj = j + kk := ⟨_, rfl⟩
       have e9 : j + 1 + kk = jj + 1 := by omega
       rw [e9] at hc3 hown HBk hkl
       have e1 : (((j + 1 : Nat) : Int) + (kk : Int) - 1) = (jj : Int) := by omega
       rw [e1]
       rw [← hjj] at hj
       have hkj : (kk : Int) ≤ (jj : Int) := by omega
       have HJJ := Lib.hid hjj
       clear e1 e9 hjj
       obtain ⟨b', off', hbo, hc⟩ := Hop.at (r.ext (hx0.trans hx)) jj hj
       cases hbo
       have hln : (s.hops.drop (jj + 1)).reverse.length + 1 ≤ 1048576 := by simp; omega
       have HE := Lib.hid (rev_drop hj)
       have hle : (s.hops.drop jj).reverse.length = (s.hops.drop (jj + 1)).reverse.length + 1 := by simp; omega
       have HLE := Lib.hid hle; clear hle
       generalize (s.hops.drop (jj + 1)).reverse = out at *
       have hj0 : (0 : Int) ≤ (jj : Int) := Int.natCast_nonneg _
       have hj1 : (jj : Int) < (s.hops.length : Int) := by omega
       go_wp2_with fail
       refine planStep (.blk [0, 1, 2, 3, 4, 5, 6] (.one 7 (.one 8 (.blk [9] (.one 10 .done))))) [8, 10] (by kernel_rfl) (by kernel_rfl) ?_
       refine blkStep (fun K HK => ?_)
       simp only [PK]
       go_wp2_with fail
       refine HK.out _ _ ?_
       clear HK K
       refine oneStep (fun K HK => ?_)
       simp only [PK]
       go_wp2_with fail
       refine HK.out _ _ ((Ext.refl _).alloc _) ?_
       clear HK K
       refine badStep (by kernel_rfl) (fun K HK => ?_)
       simp only [PK]
       refine app1 E Hop.flen Hop.one rfl _ _ rfl s.hops[jj] rfl (OwnF.ext hown ((Ext.refl _).drew.alloc _)) rfl (by exact blk_list s.hops[jj].f (blk_new wr _)) (by omega) (by unfold maxLen; omega) (by exact Nat.le_trans hsw ((Ext.refl wr).drew.alloc _).size) ?_
       intro v' w' ho' hg'
       have hsw' : w5.heap.size ≤ w'.heap.size := Nat.le_trans (Nat.le_trans hsw ((Ext.refl wr).drew.alloc _).size) hg'.size
       have hx' := Ext.app (hx.drew.alloc _) hg' hown hx5.size
       have hb3' := own_ne (OwnF.ext hown ((Ext.refl _).drew.alloc _)) (Ext.block ((Ext.refl _).drew.alloc _) HBk.out) (by decide) hg'
       rw [HE.out] at ho'
       obtain ⟨on, cn, hve, _⟩ := (OwnF.rd (hf := Hop.flen) ho').shape
       rw [show (s.hops.drop jj).reverse.length = s.hops.length - jj from by simp] at hve
       subst hve
       have c3' := blk4 hb3'
       have f3' := fr_of hb3' 3
       have hb4 := blk_set hb3' 3 (.slice on (s.hops.length - jj) cn)
       simp only [List.setIfInBounds_toArray, List.set_cons_succ, List.set_cons_zero] at hb4
       have HB4 := Lib.hid hb4; clear hb4 hb3'
       have hx4 := hx'.setCell (p := ⟨B7, 3, none⟩) (by simp; omega) (.slice on (s.hops.length - jj) cn)
       have HO4 := Lib.hid (ho'.set (p := ⟨B7, 3, none⟩) (by simpa using hlt5) (.slice on (s.hops.length - jj) cn))
       clear hg' ho'
       go_wp2_with fail
       refine HK.out _ _ ?_
       clear HK K
       refine blkStep (fun K HK => ?_)
       simp only [PK]
       go_wp2_with fail
       refine HK.out _ _ ?_
       clear HK K
       refine badStep (by kernel_rfl) (fun K HK => ?_)
       simp only [PK]
       go_wp2_with fail
       refine HK.out _ _ ?_
       clear HK K
       refine doneStep (by kernel_rfl) ?_
       go_wp2_with fail
       go_roundg j
       case measure => omega
       case rel => exact ⟨congrArg (Value.int .i64) (by have h1 := HJJ.out; omega), by have h1 := HJJ.out; omega, ⟨on, cn, by rw [← HJJ.out]; exact HB4, by rw [← HJJ.out]; exact HO4.out⟩, by simpa using hsw', hx4⟩
end
section
open Go.ChangeShapes Go.WideShapes Go.ChangeAt Go.RowKit Go.Deep
theorem cells4_ext {w w' : World} (h : Ext w w') {p0 p1 p2 p3 : Addr} {a b c d : Value} (k : w.cell? p0 = some a ∧ w.cell? p1 = some b ∧ w.cell? p2 = some c ∧ w.cell? p3 = some d) : w'.cell? p0 = some a ∧ w'.cell? p1 = some b ∧ w'.cell? p2 = some c ∧ w'.cell? p3 = some d :=
 ⟨Ext.cell h k.1, Ext.cell h k.2.1, Ext.cell h k.2.2.1, Ext.cell h k.2.2.2⟩
end
end Go.Proofs.Ytikbeiafobnblaa
