/- Parts of segments, program; comparisons of parts. No condition but the bounds that each theorem names. -/
import Derived.Test.YtikbeiafobnblaaKQxW40e
import Derived.Test.YtikbeiafobnblaaKQ53
import Derived.Test.YtikbeiafobnblaaKQ55
namespace Go.Proofs.Ytikbeiafobnblaa
open Go.ChangeShapes Go.WideShapes Go.ChangeAt Go.RowKit Go.Deep

set_option maxRecDepth 100000 in
set_option maxHeartbeats 8000000 in
theorem i_MakePart (s : Seg) (v : Value) (kind k : Int) (w : World) (r : RdS Hop.rep w v s.hops) (hl : s.hops.length ≤ 1000) :
  Calls Try.prog 34 #[.agg #[.int .i64 s.ts, .int .i64 s.beta, v], .int .i64 kind, .int .i64 k] w fun e w' => ∃ u, e = .returned (.agg #[.int .i64 (makePart s kind k).kind, .int .i64 (makePart s kind k).ts, .int .i64 (makePart s kind k).beta, u]) ∧ OwnF Hop.f 5 w.heap.size 146 w' u (makePart s kind k).hops ∧ Ext w w' := by
 obtain ⟨o, cap, rfl, hsm⟩ := r.shape
 have hcap := r.capLe
 have hx0 := ext2 w (.cells #[.int .i64 s.ts, .int .i64 s.beta, .slice o s.hops.length cap] 60) (.cells #[.int .i64 0, .int .i64 0, .int .i64 0, .slice none 0 0] 78)
 have HB := Lib.hid (al2 w (.cells #[.int .i64 s.ts, .int .i64 s.beta, .slice o s.hops.length cap] 60) (.cells #[.int .i64 0, .int .i64 0, .int .i64 0, .slice none 0 0] 78))
 go_enter Try.func34, Try.ntmps34
 have cb := blk3 HB.out.1
 have cz := blk4 HB.out.2
 go_wp2_with fail
 refine (i_InRange _ _ _ _).mono ?_
 rintro e _ ⟨rfl, rfl⟩
 cases hin : inR k 0 ((s.hops.length : Int) - 1)
 ·
  have hmp : makePart s kind k = ⟨0, 0, 0, []⟩ := by unfold makePart; rw [if_neg (by simp [hin])]
  have HMP := Lib.hid hmp
  clear hmp
  have g0 := fr_of HB.out.2 0
  have g1 := fr_of HB.out.2 1
  have g2 := fr_of HB.out.2 2
  have g3 := fr_of HB.out.2 3
  go_wp2_with fail
  refine bodyPost_ret (v := .agg #[.int .i64 0, .int .i64 0, .int .i64 0, .slice none 0 0]) (by simp [results, Try.results34, go_sem, cz]) rfl ⟨.slice none 0 0, ?_, ?_, ?_⟩
  ·
   rw [HMP.out]
  ·
   rw [HMP.out]; exact OwnF.nil _ _ _ _ _
  ·
   first | exact hx0 | exact (((hx0.setCell (by simp) _).setCell (by simp) _).setCell (by simp) _).setCell (by simp) _
 ·
  go_wp2_with fail
  refine (i_InRange _ _ _ _).mono ?_
  rintro e _ ⟨rfl, rfl⟩
  cases hik : inR kind 1 4
  ·
   have hmp : makePart s kind k = ⟨0, 0, 0, []⟩ := by unfold makePart; rw [if_neg (by simp [hin, hik])]
   have HMP := Lib.hid hmp
   clear hmp
   have g0 := fr_of HB.out.2 0
   have g1 := fr_of HB.out.2 1
   have g2 := fr_of HB.out.2 2
   have g3 := fr_of HB.out.2 3
   go_wp2_with fail
   refine bodyPost_ret (v := .agg #[.int .i64 0, .int .i64 0, .int .i64 0, .slice none 0 0]) (by simp [results, Try.results34, go_sem, cz]) rfl ⟨.slice none 0 0, ?_, ?_, ?_⟩
   ·
    rw [HMP.out]
   ·
    rw [HMP.out]; exact OwnF.nil _ _ _ _ _
   ·
    first | exact hx0 | exact (((hx0.setCell (by simp) _).setCell (by simp) _).setCell (by simp) _).setCell (by simp) _
  ·
   obtain ⟨h1, h2⟩ := inR_true.1 hin
   obtain ⟨kk, rfl⟩ := Int.eq_ofNat_of_zero_le h1
   have hk : kk < s.hops.length := by omega
   have hmp : makePart s kind kk = mkPart s kind kk := by unfold makePart; rw [if_pos (by simp [hin, hik]), Int.toNat_natCast]
   have HMP := Lib.hid hmp
   clear hmp hin hik h1 h2
   obtain ⟨b, off, rfl, _⟩ := Hop.at r 0 (by omega)
   have hcp2 : (kk : Int) ≤ cap := by omega
   have hcp3 : ¬ cap = kk := by omega
   obtain ⟨dl, hdl⟩ : ∃ dl, dl = s.hops.drop kk := ⟨_, rfl⟩
   have hdn : dl.length = s.hops.length - kk := by rw [hdl]; simp
   have HDN := Lib.hid hdn
   clear hdn
   have HDL := Lib.hid hdl
   have RS : RdS Hop.rep w (.slice (some ⟨b, off + kk * 5, none⟩) (s.hops.length - kk) (cap - kk)) dl := by rw [hdl]; exact r.suf kk (by omega)
   clear hdl
   go_upto_region 3 with (fail)
   clear cb cz
   obtain ⟨W0, hW0⟩ : ∃ W0 : World, W0 = ((w.alloc (.cells #[.int .i64 s.ts, .int .i64 s.beta, .slice (some ⟨b, off, none⟩) s.hops.length cap] 60)).alloc (.cells #[.int .i64 0, .int .i64 0, .int .i64 0, .slice none 0 0] 78)) := ⟨_, rfl⟩
   rw [← hW0] at HB hx0 ⊢
   have hs0 : w.heap.size + 2 ≤ W0.heap.size := by rw [hW0]; simp
   clear hW0
   have cf1 := blk3 HB.out.1
   go_upto_region 3 with (fail)
   go_cut [7] (fun v7 wx => ∃ (B7 : Nat) (be : Int) (oh : Option Addr) (ch lo hi : Nat), v7 = .pointer (some ⟨B7, 0, none⟩) ∧ be = betaAt s kk ∧ wx.heap[B7]? = some (.cells #[.int .i64 kind, .int .i64 s.ts, .int .i64 be, .slice oh dl.length ch] 78 (0, 0)) ∧ W0.heap.size ≤ B7 ∧ (Own.flat Hop.f 5 Hop.flen 146).own (rng lo hi) wx (.slice oh dl.length ch) dl ∧ W0.heap.size ≤ lo ∧ (B7 < lo ∨ hi ≤ B7) ∧ Ext W0 wx)
   case first =>
    refine planStep (.blk [0, 1, 2, 3, 4, 6, 7, 8, 9] (.two 5 12 (.two 10 12 (.blk [11] (.one 12 (.one 13 .done))) (.one 10 (.blk [11] (.one 13 .done)))) (.one 5 (.one 10 (.blk [11] (.one 13 .done)))))) [13] (by kernel_rfl) (by kernel_rfl) ?_
    refine blkStep (fun K HK => ?_)
    simp only [PK]
    go_wp2_with fail
    refine HK.out _ _ ?_
    clear HK K
    refine twoStep ?_ ?_
    ·
     refine oneStep (fun K HK => ?_)
     simp only [PK]
     go_wp2_with fail
     refine (i_BetaAt s _ (kk : Int) _ (r.ext (hx0.trans (Ext.refl _).drew)) (by omega)).mono ?_
     rintro e wk0 ⟨rfl, hk0⟩
     generalize hbe : betaAt s kk = be
     have HBE := Lib.hid hbe
     clear hbe
     have hcc1 := blk3 (Ext.block ((Ext.refl _).trans ((Ext.refl _).drew.trans hk0)) HB.out.1)
     go_wp2_with fail
     refine HK.out _ _ hk0 ?_
     clear HK K
     refine twoStep ?_ ?_
     ·
      refine oneStep (fun K HK => ?_)
      simp only [PK]
      go_wp2_with fail
      refine (i_copyHops dl _ _ (RS.ext (hx0.trans ((Ext.refl _).drew.trans hk0))) (by have h1 := HDN.out; omega)).mono ?_
      rintro e wk1 ⟨v1, rfl, oh1, hk1⟩
      have RH : (Own.flat Hop.f 5 Hop.flen 146).own (rng _ wk1.heap.size) wk1 v1 dl := Own.ofF (hf := Hop.flen) oh1
      clear oh1
      obtain ⟨oh, ch, rfl, _⟩ := (OwnF.rd (hf := Hop.flen) RH.1).shape
      have hcc2 := blk3 (Ext.block ((Ext.refl _).trans (((Ext.refl _).drew.trans hk0).trans hk1)) HB.out.1)
      go_wp2_with fail
      refine HK.out _ _ hk1 ?_
      clear HK K
      refine blkStep (fun K HK => ?_)
      simp only [PK]
      go_wp2_with fail
      refine HK.out _ _ ?_
      clear HK K
      refine oneStep (fun K HK => ?_)
      simp only [PK]
      go_wp2_with fail
      refine HK.out _ _ ((Ext.refl _).alloc _) ?_
      clear HK K
      refine badStep (by kernel_rfl) (fun K HK => ?_)
      simp only [PK]
      go_wp2_with fail
      refine HK.out _ _ ?_
      clear HK K
      refine doneStep (by kernel_rfl) ?_
      go_wp2_with fail
      go_meet
      exact ⟨_, be, oh, ch, _, _, rfl, HBE.out.symm, blk_new _ _, (((Ext.refl _).drew.trans hk0).trans hk1).size, Own.ext RH ((Ext.refl _).alloc _), ((Ext.refl _).drew.trans hk0).size, .inr (Nat.le_refl _), (((Ext.refl _).drew.trans hk0).trans hk1).alloc _⟩
     ·
      have hba := blk_new wk0 (.cells #[.int .i64 0, .int .i64 0, .int .i64 0, .slice none 0 0] 78)
      have HBA := Lib.hid hba; clear hba
      refine oneStep (fun K HK => ?_)
      simp only [PK]
      go_wp2_with fail
      refine HK.out _ _ ((Ext.refl _).alloc _) ?_
      clear HK K
      refine oneStep (fun K HK => ?_)
      simp only [PK]
      go_wp2_with fail
      refine (i_copyHops dl _ _ (RS.ext (hx0.trans (((Ext.refl _).drew.trans hk0).trans ((Ext.refl _).alloc _)))) (by have h1 := HDN.out; omega)).mono ?_
      rintro e wk1 ⟨v1, rfl, oh1, hk1⟩
      have RH : (Own.flat Hop.f 5 Hop.flen 146).own (rng _ wk1.heap.size) wk1 v1 dl := Own.ofF (hf := Hop.flen) oh1
      clear oh1
      obtain ⟨oh, ch, rfl, _⟩ := (OwnF.rd (hf := Hop.flen) RH.1).shape
      have hcc3 := blk3 (Ext.block ((Ext.refl _).trans ((((Ext.refl _).drew.trans hk0).trans ((Ext.refl _).alloc _)).trans hk1)) HB.out.1)
      go_wp2_with fail
      refine HK.out _ _ hk1 ?_
      clear HK K
      refine blkStep (fun K HK => ?_)
      simp only [PK]
      go_wp2_with fail
      refine HK.out _ _ ?_
      clear HK K
      have hbs := Ext.block hk1 HBA.out
      have hcs := blk4 hbs
      have hfs0 := fr_of hbs 0
      have hfs1 := fr_of hbs 1
      have hfs2 := fr_of hbs 2
      have hfs3 := fr_of hbs 3
      have HBS := Lib.hid hbs; clear hbs
      refine badStep (by kernel_rfl) (fun K HK => ?_)
      simp only [PK]
      go_wp2_with fail
      refine HK.out _ _ ?_
      clear HK K
      refine doneStep (by kernel_rfl) ?_
      go_wp2_with fail
      go_meet
      obtain ⟨wq, hwq, hbq, hcq⟩ := four_setP HBS.out (.int .i64 kind) (.int .i64 s.ts) (.int .i64 be) (.slice oh dl.length ch)
      rw [← hwq]
      exact ⟨_, be, oh, ch, _, _, rfl, HBE.out.symm, hbq, ((Ext.refl _).drew.trans hk0).size, Own.at1g (Own.ext RH (Ext.refl _)) hcq (.inl (Nat.lt_of_lt_of_le (blk_lt HBA.out) (Ext.refl _).size)), (((Ext.refl _).drew.trans hk0).trans ((Ext.refl _).alloc _)).size, .inl (Nat.lt_of_lt_of_le (blk_lt HBA.out) (Ext.refl _).size), ((((Ext.refl _).drew.trans hk0).trans ((Ext.refl _).alloc _)).trans hk1).chg hcq (fun i hi => by have h1 : i = _ := hi; rw [h1]; exact ((Ext.refl _).drew.trans hk0).size)⟩
    ·
     have hba := blk_new W0 (.cells #[.int .i64 0, .int .i64 0, .int .i64 0, .slice none 0 0] 78)
     have HBA := Lib.hid hba; clear hba
     refine oneStep (fun K HK => ?_)
     simp only [PK]
     go_wp2_with fail
     refine HK.out _ _ ((Ext.refl _).alloc _) ?_
     clear HK K
     refine oneStep (fun K HK => ?_)
     simp only [PK]
     go_wp2_with fail
     refine (i_BetaAt s _ (kk : Int) _ (r.ext (hx0.trans ((Ext.refl _).drew.trans ((Ext.refl _).alloc _)))) (by omega)).mono ?_
     rintro e wk0 ⟨rfl, hk0⟩
     generalize hbe : betaAt s kk = be
     have HBE := Lib.hid hbe
     clear hbe
     have hcc4 := blk3 (Ext.block ((Ext.refl _).trans (((Ext.refl _).drew.trans ((Ext.refl _).alloc _)).trans hk0)) HB.out.1)
     go_wp2_with fail
     refine HK.out _ _ hk0 ?_
     clear HK K
     refine oneStep (fun K HK => ?_)
     simp only [PK]
     go_wp2_with fail
     refine (i_copyHops dl _ _ (RS.ext (hx0.trans (((Ext.refl _).drew.trans ((Ext.refl _).alloc _)).trans hk0))) (by have h1 := HDN.out; omega)).mono ?_
     rintro e wk1 ⟨v1, rfl, oh1, hk1⟩
     have RH : (Own.flat Hop.f 5 Hop.flen 146).own (rng _ wk1.heap.size) wk1 v1 dl := Own.ofF (hf := Hop.flen) oh1
     clear oh1
     obtain ⟨oh, ch, rfl, _⟩ := (OwnF.rd (hf := Hop.flen) RH.1).shape
     have hcc5 := blk3 (Ext.block ((Ext.refl _).trans ((((Ext.refl _).drew.trans ((Ext.refl _).alloc _)).trans hk0).trans hk1)) HB.out.1)
     go_wp2_with fail
     refine HK.out _ _ hk1 ?_
     clear HK K
     refine blkStep (fun K HK => ?_)
     simp only [PK]
     go_wp2_with fail
     refine HK.out _ _ ?_
     clear HK K
     have hbs := Ext.block (hk0.trans hk1) HBA.out
     have hcs := blk4 hbs
     have hfs0 := fr_of hbs 0
     have hfs1 := fr_of hbs 1
     have hfs2 := fr_of hbs 2
     have hfs3 := fr_of hbs 3
     have HBS := Lib.hid hbs; clear hbs
     refine badStep (by kernel_rfl) (fun K HK => ?_)
     simp only [PK]
     go_wp2_with fail
     refine HK.out _ _ ?_
     clear HK K
     refine doneStep (by kernel_rfl) ?_
     go_wp2_with fail
     go_meet
     obtain ⟨wq, hwq, hbq, hcq⟩ := four_setP HBS.out (.int .i64 kind) (.int .i64 s.ts) (.int .i64 be) (.slice oh dl.length ch)
     rw [← hwq]
     exact ⟨_, be, oh, ch, _, _, rfl, HBE.out.symm, hbq, (Ext.refl _).drew.size, Own.at1g (Own.ext RH (Ext.refl _)) hcq (.inl (Nat.lt_of_lt_of_le (blk_lt HBA.out) hk0.size)), (((Ext.refl _).drew.trans ((Ext.refl _).alloc _)).trans hk0).size, .inl (Nat.lt_of_lt_of_le (blk_lt HBA.out) hk0.size), ((((Ext.refl _).drew.trans ((Ext.refl _).alloc _)).trans hk0).trans hk1).chg hcq (fun i hi => by have h1 : i = _ := hi; rw [h1]; exact (Ext.refl _).drew.size)⟩
   case rest =>
    obtain ⟨B7, be, oh, ch, lo, hi, rfl, hbe, hb7, hle7, RH, hlo, hap, hxc⟩ := hcut
    have HBE := Lib.hid hbe
    have HB7 := Lib.hid hb7
    clear hbe hb7
    have hlt7 : B7 < wc.heap.size := blk_lt HB7.out
    go_wp2_with fail
    refine (i_IsReversed kind _).mono ?_
    rintro e _ ⟨rfl, rfl⟩
    cases hrv : isRev kind
    ·
     have hmk : mkPart s kind kk = ⟨kind, s.ts, be, dl⟩ := by unfold mkPart; rw [hrv, HBE.out, ← HDL.out]; simp
     rw [hmk] at HMP
     clear hmk hcp2 hcp3
     have oD := Own.toF RH
     have c7z := blk4 HB7.out
     have hb6 := Ext.block hxc HB.out.2
     have c6 := blk4 hb6
     have g0 := fr_of hb6 0
     have g1 := fr_of hb6 1
     have g2 := fr_of hb6 2
     have g3 := fr_of hb6 3
     go_wp2_with fail
     refine bodyPost_ret (v := .agg #[.int .i64 kind, .int .i64 s.ts, .int .i64 be, .slice oh dl.length ch]) (by simp [results, Try.results34, go_sem, c6]) rfl ⟨.slice oh dl.length ch, ?_, ?_, ?_⟩
     ·
      rw [HMP.out]
     ·
      rw [HMP.out]
      exact (((((oD.set (by simp; omega) _).set (by simp; omega) _).set (by simp; omega) _).set (by simp; omega) _)).mono (by omega)
     ·
      exact ((((hx0.trans hxc).setCell (by simp) _).setCell (by simp) _).setCell (by simp) _).setCell (by simp) _
    ·
     have hmk : mkPart s kind kk = ⟨kind, s.ts, betaAt s s.hops.length, dl.reverse⟩ := by unfold mkPart; rw [hrv, ← HDL.out]; simp
     rw [hmk] at HMP
     clear hmk hcp2 hcp3
     have cb := blk3 (hxc.block HB.out.1)
     have c7 := blk4 HB7.out
     have f72 := fr_of HB7.out 2
     go_wp2_with fail
     refine (i_BetaAt s _ (s.hops.length : Int) _ (r.ext (hx0.trans hxc)) (by omega)).mono ?_
     rintro e w1 ⟨rfl, h1⟩
     generalize hb2 : betaAt s s.hops.length = b2
     have HB2 := Lib.hid hb2
     rw [hb2] at HMP
     clear hb2 cb c7 f72
     have hb7' := h1.block HB7.out
     have cb := blk3 ((hxc.trans h1).block HB.out.1)
     have c7 := blk4 hb7'
     have f72 := fr_of hb7' 2
     obtain ⟨w5, hw5, hb5, hc5⟩ := one_set hb7' 2 (.int .i64 b2)
     simp only [List.setIfInBounds_toArray, List.set_cons_succ, List.set_cons_zero] at hb5
     have HW5 := Lib.hid hw5
     clear hw5
     go_upto_region 6 with (fail)
     rw [← HW5.out]
     clear HW5 cb c7 f72 hb7'
     have hx5 : Ext W0 w5 := (hxc.trans h1).chg hc5 (fun i hi => by have h1 : i = B7 := hi; omega)
     have R5 := Own.at1g (Own.ext RH h1) hc5 hap
     have hlt5 : B7 < w5.heap.size := blk_lt hb5
     clear hc5 h1
     have c7 := blk4 hb5
     go_wp2_with fail
     refine (i_reversedHops dl _ _ (Own.rd _ R5) (by have h1 := HDN.out; omega)).mono ?_
     rintro e w6 ⟨v6, rfl, o6, h6⟩
     obtain ⟨o_r, c_r, rfl, _⟩ := (OwnF.rd (hf := Hop.flen) o6).shape
     obtain ⟨rl, hrl⟩ : ∃ rl, rl = dl.reverse := ⟨_, rfl⟩
     rw [← hrl] at o6 HMP ⊢
     clear hrl c7
     have hb8 := h6.block hb5
     have c7 := blk4 hb8
     have f73 := fr_of hb8 3
     obtain ⟨w7, hw7, hb7, hc7⟩ := one_set hb8 3 (.slice o_r rl.length c_r)
     simp only [List.setIfInBounds_toArray, List.set_cons_succ, List.set_cons_zero] at hb7
     have HW7 := Lib.hid hw7
     clear hw7
     go_upto_region 7 with (fail)
     rw [← HW7.out]
     clear HW7 c7 f73 hb8
     have o7 := o6.chg hc7 (fun q hq e => by have h1 := (o6.block q hq).1; have h2 : q = B7 := e; omega)
     have hx7 : Ext W0 w7 := (hx5.trans h6).chg hc7 (fun i hi => by have h1 : i = B7 := hi; omega)
     have hz7 : w.heap.size + 2 ≤ w5.heap.size := by have h1 := hx5.size; omega
     clear hc7
     have c7z := blk4 hb7
     have hb6 := Ext.block hx7 HB.out.2
     have c6 := blk4 hb6
     have g0 := fr_of hb6 0
     have g1 := fr_of hb6 1
     have g2 := fr_of hb6 2
     have g3 := fr_of hb6 3
     go_wp2_with fail
     refine bodyPost_ret (v := .agg #[.int .i64 kind, .int .i64 s.ts, .int .i64 b2, .slice o_r rl.length c_r]) (by simp [results, Try.results34, go_sem, c6]) rfl ⟨.slice o_r rl.length c_r, ?_, ?_, ?_⟩
     ·
      rw [HMP.out]
     ·
      rw [HMP.out]
      exact (((((o7.set (by simp; omega) _).set (by simp; omega) _).set (by simp; omega) _).set (by simp; omega) _)).mono (by omega)
     ·
      exact ((((hx0.trans hx7).setCell (by simp) _).setCell (by simp) _).setCell (by simp) _).setCell (by simp) _

end Go.Proofs.Ytikbeiafobnblaa
