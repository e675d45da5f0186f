/- What these laws need: FnFinishes: Draws of segments and of pairs of them. -/
import Derived.OwnWalk
import Derived.Test.YtcpfmhgfaliemaaKN21
namespace Go.Proofs.Ytcpfmhgfaliemaa
section
open Go.ChangeShapes Go.WideShapes Go.ChangeAt Go.RowKit Go.Deep
set_option maxRecDepth 100000 in
set_option maxHeartbeats 20000000 in
theorem s_l9Draw (g : Nat)  (cv : Value) (cd : List Int) (w : World) (hc : Cur g cv cd w) :
  Calls Try.prog 83 #[.pointer (some ⟨g, 0, none⟩)] w fun e w' => ∃ (v1 v2 v : Value) (t : Topo) (kind : Int) (a : Seg), e = .returned (.tuple #[.agg #[v1, v2], .agg #[.int .i64 a.ts, .int .i64 a.beta, v]]) ∧ TopoOk t ∧ SegDrawn t kind a ∧ OwnF ASd.f 3 w.heap.size 118 w' v1 t.ases ∧ OwnF Lnk.f 5 w.heap.size 122 w' v2 t.links ∧ OwnF Hop.f 5 w.heap.size 108 w' v a.hops ∧ Cur g cv cd w' ∧ Chg (at1 g) w w' := by
 have hgw := hc.lt
 have s : DSt g cv cd w ((w.alloc (.cells #[.slice none 0 0, .slice none 0 0] 41)).alloc (.cells #[.int .i64 0, .int .i64 0, .slice none 0 0] 60)) := ⟨hc.ext (ext2 w _ _), Chg.ofExt (ext2 w _ _), hc⟩
 have B2 := (al2 w (.cells #[.slice none 0 0, .slice none 0 0] 41) (.cells #[.int .i64 0, .int .i64 0, .slice none 0 0] 60)).1
 have B3 := (al2 w (.cells #[.slice none 0 0, .slice none 0 0] 41) (.cells #[.int .i64 0, .int .i64 0, .slice none 0 0] 60)).2
 go_enter Try.func83, Try.ntmps83
 go_wp2_with fail
 have hbs := s.x.size
 refine (s_l5Draw g _ _ _ s.c).mono ?_
 rintro e w1 ⟨v1, v2, t, rfl, TK, RA, RL, hcq, hzq⟩
 replace RA := RA.mono hbs
 replace RL := RL.mono hbs
 replace B2 := hzq.blkS B2 (by unfold at1; omega)
 replace B3 := hzq.blkS B3 (by unfold at1; omega)
 replace s := s.draw hcq hzq
 clear hcq hzq hbs
 obtain ⟨o1, c1, rfl, _⟩ := (OwnF.rd (hf := ASd.flen) RA).shape
 obtain ⟨o2, c2, rfl, _⟩ := (OwnF.rd (hf := Lnk.flen) RL).shape
 have cb_B2 := blk2 B2
 have cb_B3 := blk3 B3
 go_upto_region 3 with (fail)
 clear cb_B2 cb_B3
 have hxa : Ext w1 (w1.alloc (.cells #[.slice o1 t.ases.length c1, .slice o2 t.links.length c2] 41)) := (Ext.refl _).alloc _
 have lt_w : w.heap.size ≤ w1.heap.size := s.x.size
 have lt_B2 : w.heap.size < w1.heap.size := blk_lt B2
 have lt_B3 : (w.heap.size + 1) < w1.heap.size := blk_lt B3
 replace B2 := Ext.block hxa B2
 replace B3 := Ext.block hxa B3
 replace RA := RA.ext hxa
 replace RL := RL.ext hxa
 replace s := s.ext hxa
 have B4 := blk_new w1 (.cells #[.slice o1 t.ases.length c1, .slice o2 t.links.length c2] 41)
 obtain ⟨b4, eb4⟩ : ∃ b, b = w1.heap.size := ⟨_, rfl⟩
 rw [← eb4] at B4 lt_w lt_B2 lt_B3
 have lt_B2_B4 := lt_B2
 clear lt_B2
 have lt_B3_B4 := lt_B3
 clear lt_B3
 have ltw_B4 := lt_w
 clear lt_w hxa
 try rw [← eb4]
 generalize (w1.alloc (.cells #[.slice o1 t.ases.length c1, .slice o2 t.links.length c2] 41)) = wa at B2 B3 B4 RA RL s ⊢
 clear eb4
 have cb_B2 := blk2 B2
 have cb_B3 := blk3 B3
 have cb_B4 := blk2 B4
 go_wp2_with fail
 clear cb_B2 cb_B3 cb_B4
 have hbs := s.x.size
 refine (s_l1Once g (3) _ _ _ s.c).mono ?_
 rintro e w2 ⟨b, rfl, hcq, hzq⟩
 replace B2 := hzq.blkS B2 (by unfold at1; omega)
 replace B3 := hzq.blkS B3 (by unfold at1; omega)
 replace B4 := hzq.blkS B4 (by unfold at1; omega)
 replace RA := RA.at1 hzq hgw
 replace RL := RL.at1 hzq hgw
 replace s := s.draw hcq hzq
 clear hcq hzq hbs
 cases b
 case false =>
  have cb_B2 := blk2 B2
  have cb_B3 := blk3 B3
  have cb_B4 := blk2 B4
  go_upto_region 5 with (fail)
  clear cb_B2 cb_B3 cb_B4
  replace B2 := Ext.block ((Ext.refl w2).drew) B2
  replace B3 := Ext.block ((Ext.refl w2).drew) B3
  replace B4 := Ext.block ((Ext.refl w2).drew) B4
  replace RA := RA.ext ((Ext.refl w2).drew)
  replace RL := RL.ext ((Ext.refl w2).drew)
  replace s := s.ext ((Ext.refl w2).drew)
  refine planStep (.blk [1, 2, 3] (.two 0 4 (.one 4 (.one 5 (.one 6 .done))) (.blk [0] (.one 5 (.one 6 .done))))) [4, 5, 6] (by kernel_rfl) (by kernel_rfl) ?_
  generalize w2.drew = wdd at B2 B3 B4 RA RL s ⊢
  have cB := blk2 B4
  refine blkStep (fun K HK => ?_)
  simp only [PK]
  go_wp2_with fail
  refine HK.out _ _ ?_
  clear HK K
  clear cB
  refine twoStep ?_ ?_
  ·
   have cB := blk2 B4
   refine oneStep (fun K HK => ?_)
   simp only [PK]
   go_wp2_with fail
   refine HK.out _ _ (Ext.refl _) ?_
   clear HK K cB
   refine badStep (by kernel_rfl) (fun K HK => ?_)
   simp only [PK]
   go_wp2_with fail
   have hbs := s.x.size
   refine (s_l9Grow g t (.slice o1 t.ases.length c1) (.slice o2 t.links.length c2) 2 _ _ _ s.c TK (St.ofF RA hgw) (St.ofF RL hgw)).mono ?_
   rintro e w3 ⟨va, a, rfl, SD, RH, hcq, hzq⟩
   replace RH := RH.mono hbs
   replace B2 := hzq.blkS B2 (by unfold at1; omega)
   replace B3 := hzq.blkS B3 (by unfold at1; omega)
   replace B4 := hzq.blkS B4 (by unfold at1; omega)
   replace RA := RA.at1 hzq hgw
   replace RL := RL.at1 hzq hgw
   replace s := s.draw hcq hzq
   clear hcq hzq hbs
   obtain ⟨o_a, c_a, rfl, _⟩ := (OwnF.rd (hf := Hop.flen) RH).shape
   go_wp2_with fail
   refine HK.out _ _ ?_
   clear HK K
   obtain ⟨wpa, hwa, hba, hca⟩ := two_set B2 (.slice o1 t.ases.length c1) (.slice o2 t.links.length c2)
   have HWa := Lib.hid hwa
   clear hwa
   have ff0 := fr_of B2 0
   have ff1 := fr_of B2 1
   have cb_B2 := blk2 B2
   have cb_B3 := blk3 B3
   have cb_B4 := blk2 B4
   refine badStep (by kernel_rfl) (fun K HK => ?_)
   simp only [PK]
   go_wp2_with fail
   refine HK.out _ _ ?_
   clear HK K
   rw [← HWa.out]
   clear HWa ff0 ff1 cb_B2 cb_B3 cb_B4
   replace RA := RA.chg hca (fun k hk e => RA.ne B2 (by decide) (by rw [hk]; exact congrArg some e))
   replace RL := RL.chg hca (fun k hk e => RL.ne B2 (by decide) (by rw [hk]; exact congrArg some e))
   replace RH := RH.chg hca (fun k hk e => RH.ne B2 (by decide) (by rw [hk]; exact congrArg some e))
   replace B3 := hca.blkS B3 (by unfold at1; omega)
   replace B4 := hca.blkS B4 (by unfold at1; omega)
   replace B2 := hba
   clear hba
   replace s := s.put hca (fun i hi => by have h1 : i = w.heap.size := hi; omega)
   clear hca
   obtain ⟨wpb, hwb, hbb, hcb⟩ := three_set B3 (.int .i64 a.ts) (.int .i64 a.beta) (.slice o_a a.hops.length c_a)
   have HWb := Lib.hid hwb
   clear hwb
   have ff0 := fr_of B3 0
   have ff1 := fr_of B3 1
   have ff2 := fr_of B3 2
   have cb_B2 := blk2 B2
   have cb_B3 := blk3 B3
   have cb_B4 := blk2 B4
   refine badStep (by kernel_rfl) (fun K HK => ?_)
   simp only [PK]
   go_wp2_with fail
   refine HK.out _ _ ?_
   clear HK K
   rw [← HWb.out]
   clear HWb ff0 ff1 ff2 cb_B2 cb_B3 cb_B4
   replace RA := RA.chg hcb (fun k hk e => RA.ne B3 (by decide) (by rw [hk]; exact congrArg some e))
   replace RL := RL.chg hcb (fun k hk e => RL.ne B3 (by decide) (by rw [hk]; exact congrArg some e))
   replace RH := RH.chg hcb (fun k hk e => RH.ne B3 (by decide) (by rw [hk]; exact congrArg some e))
   replace B2 := hcb.blkS B2 (by unfold at1; omega)
   replace B4 := hcb.blkS B4 (by unfold at1; omega)
   replace B3 := hbb
   clear hbb
   replace s := s.put hcb (fun i hi => by have h1 : i = (w.heap.size + 1) := hi; omega)
   clear hcb
   refine doneStep (by kernel_rfl) ?_
   have cB := blk2 B2
   have cC := blk3 B3
   go_wp2_with fail
   refine bodyPost_ret (v := .tuple #[.agg #[.slice o1 t.ases.length c1, .slice o2 t.links.length c2], .agg #[.int .i64 a.ts, .int .i64 a.beta, .slice o_a a.hops.length c_a]]) (by simp [results, Try.results83, go_sem, cB, cC]) rfl ?_
   exact ⟨_, _, _, t, 2, a, rfl, TK, SD, RA, RL, RH, s.c, s.x⟩
  ·
   refine badStep (by kernel_rfl) (fun K HK => ?_)
   simp only [PK]
   go_wp2_with fail
   have hbs := s.x.size
   refine (s_l9Grow g t (.slice o1 t.ases.length c1) (.slice o2 t.links.length c2) 2 _ _ _ s.c TK (St.ofF RA hgw) (St.ofF RL hgw)).mono ?_
   rintro e w4 ⟨va, a, rfl, SD, RH, hcq, hzq⟩
   replace RH := RH.mono hbs
   replace B2 := hzq.blkS B2 (by unfold at1; omega)
   replace B3 := hzq.blkS B3 (by unfold at1; omega)
   replace B4 := hzq.blkS B4 (by unfold at1; omega)
   replace RA := RA.at1 hzq hgw
   replace RL := RL.at1 hzq hgw
   replace s := s.draw hcq hzq
   clear hcq hzq hbs
   obtain ⟨o_a, c_a, rfl, _⟩ := (OwnF.rd (hf := Hop.flen) RH).shape
   go_wp2_with fail
   refine HK.out _ _ ?_
   clear HK K
   have cB := blk2 B4
   refine blkStep (fun K HK => ?_)
   simp only [PK]
   go_wp2_with fail
   refine HK.out _ _ ?_
   clear HK K
   clear cB
   obtain ⟨wpa, hwa, hba, hca⟩ := two_set B2 (.slice o1 t.ases.length c1) (.slice o2 t.links.length c2)
   have HWa := Lib.hid hwa
   clear hwa
   have ff0 := fr_of B2 0
   have ff1 := fr_of B2 1
   have cb_B2 := blk2 B2
   have cb_B3 := blk3 B3
   have cb_B4 := blk2 B4
   refine badStep (by kernel_rfl) (fun K HK => ?_)
   simp only [PK]
   go_wp2_with fail
   refine HK.out _ _ ?_
   clear HK K
   rw [← HWa.out]
   clear HWa ff0 ff1 cb_B2 cb_B3 cb_B4
   replace RA := RA.chg hca (fun k hk e => RA.ne B2 (by decide) (by rw [hk]; exact congrArg some e))
   replace RL := RL.chg hca (fun k hk e => RL.ne B2 (by decide) (by rw [hk]; exact congrArg some e))
   replace RH := RH.chg hca (fun k hk e => RH.ne B2 (by decide) (by rw [hk]; exact congrArg some e))
   replace B3 := hca.blkS B3 (by unfold at1; omega)
   replace B4 := hca.blkS B4 (by unfold at1; omega)
   replace B2 := hba
   clear hba
   replace s := s.put hca (fun i hi => by have h1 : i = w.heap.size := hi; omega)
   clear hca
   obtain ⟨wpb, hwb, hbb, hcb⟩ := three_set B3 (.int .i64 a.ts) (.int .i64 a.beta) (.slice o_a a.hops.length c_a)
   have HWb := Lib.hid hwb
   clear hwb
   have ff0 := fr_of B3 0
   have ff1 := fr_of B3 1
   have ff2 := fr_of B3 2
   have cb_B2 := blk2 B2
   have cb_B3 := blk3 B3
   have cb_B4 := blk2 B4
   refine badStep (by kernel_rfl) (fun K HK => ?_)
   simp only [PK]
   go_wp2_with fail
   refine HK.out _ _ ?_
   clear HK K
   rw [← HWb.out]
   clear HWb ff0 ff1 ff2 cb_B2 cb_B3 cb_B4
   replace RA := RA.chg hcb (fun k hk e => RA.ne B3 (by decide) (by rw [hk]; exact congrArg some e))
   replace RL := RL.chg hcb (fun k hk e => RL.ne B3 (by decide) (by rw [hk]; exact congrArg some e))
   replace RH := RH.chg hcb (fun k hk e => RH.ne B3 (by decide) (by rw [hk]; exact congrArg some e))
   replace B2 := hcb.blkS B2 (by unfold at1; omega)
   replace B4 := hcb.blkS B4 (by unfold at1; omega)
   replace B3 := hbb
   clear hbb
   replace s := s.put hcb (fun i hi => by have h1 : i = (w.heap.size + 1) := hi; omega)
   clear hcb
   refine doneStep (by kernel_rfl) ?_
   have cB := blk2 B2
   have cC := blk3 B3
   go_wp2_with fail
   refine bodyPost_ret (v := .tuple #[.agg #[.slice o1 t.ases.length c1, .slice o2 t.links.length c2], .agg #[.int .i64 a.ts, .int .i64 a.beta, .slice o_a a.hops.length c_a]]) (by simp [results, Try.results83, go_sem, cB, cC]) rfl ?_
   exact ⟨_, _, _, t, 2, a, rfl, TK, SD, RA, RL, RH, s.c, s.x⟩
 case true =>
  have cb_B2 := blk2 B2
  have cb_B3 := blk3 B3
  have cb_B4 := blk2 B4
  go_upto_region 5 with (fail)
  clear cb_B2 cb_B3 cb_B4
  replace B2 := Ext.block ((Ext.refl w2).drew) B2
  replace B3 := Ext.block ((Ext.refl w2).drew) B3
  replace B4 := Ext.block ((Ext.refl w2).drew) B4
  replace RA := RA.ext ((Ext.refl w2).drew)
  replace RL := RL.ext ((Ext.refl w2).drew)
  replace s := s.ext ((Ext.refl w2).drew)
  refine planStep (.blk [1, 2, 3] (.two 0 4 (.one 4 (.one 5 (.one 6 .done))) (.blk [0] (.one 5 (.one 6 .done))))) [4, 5, 6] (by kernel_rfl) (by kernel_rfl) ?_
  generalize w2.drew = wdd at B2 B3 B4 RA RL s ⊢
  have cB := blk2 B4
  refine blkStep (fun K HK => ?_)
  simp only [PK]
  go_wp2_with fail
  refine HK.out _ _ ?_
  clear HK K
  clear cB
  refine twoStep ?_ ?_
  ·
   have cB := blk2 B4
   refine oneStep (fun K HK => ?_)
   simp only [PK]
   go_wp2_with fail
   refine HK.out _ _ (Ext.refl _) ?_
   clear HK K cB
   refine badStep (by kernel_rfl) (fun K HK => ?_)
   simp only [PK]
   go_wp2_with fail
   have hbs := s.x.size
   refine (s_l9Grow g t (.slice o1 t.ases.length c1) (.slice o2 t.links.length c2) 1 _ _ _ s.c TK (St.ofF RA hgw) (St.ofF RL hgw)).mono ?_
   rintro e w5 ⟨va, a, rfl, SD, RH, hcq, hzq⟩
   replace RH := RH.mono hbs
   replace B2 := hzq.blkS B2 (by unfold at1; omega)
   replace B3 := hzq.blkS B3 (by unfold at1; omega)
   replace B4 := hzq.blkS B4 (by unfold at1; omega)
   replace RA := RA.at1 hzq hgw
   replace RL := RL.at1 hzq hgw
   replace s := s.draw hcq hzq
   clear hcq hzq hbs
   obtain ⟨o_a, c_a, rfl, _⟩ := (OwnF.rd (hf := Hop.flen) RH).shape
   go_wp2_with fail
   refine HK.out _ _ ?_
   clear HK K
   obtain ⟨wpa, hwa, hba, hca⟩ := two_set B2 (.slice o1 t.ases.length c1) (.slice o2 t.links.length c2)
   have HWa := Lib.hid hwa
   clear hwa
   have ff0 := fr_of B2 0
   have ff1 := fr_of B2 1
   have cb_B2 := blk2 B2
   have cb_B3 := blk3 B3
   have cb_B4 := blk2 B4
   refine badStep (by kernel_rfl) (fun K HK => ?_)
   simp only [PK]
   go_wp2_with fail
   refine HK.out _ _ ?_
   clear HK K
   rw [← HWa.out]
   clear HWa ff0 ff1 cb_B2 cb_B3 cb_B4
   replace RA := RA.chg hca (fun k hk e => RA.ne B2 (by decide) (by rw [hk]; exact congrArg some e))
   replace RL := RL.chg hca (fun k hk e => RL.ne B2 (by decide) (by rw [hk]; exact congrArg some e))
   replace RH := RH.chg hca (fun k hk e => RH.ne B2 (by decide) (by rw [hk]; exact congrArg some e))
   replace B3 := hca.blkS B3 (by unfold at1; omega)
   replace B4 := hca.blkS B4 (by unfold at1; omega)
   replace B2 := hba
   clear hba
   replace s := s.put hca (fun i hi => by have h1 : i = w.heap.size := hi; omega)
   clear hca
   obtain ⟨wpb, hwb, hbb, hcb⟩ := three_set B3 (.int .i64 a.ts) (.int .i64 a.beta) (.slice o_a a.hops.length c_a)
   have HWb := Lib.hid hwb
   clear hwb
   have ff0 := fr_of B3 0
   have ff1 := fr_of B3 1
   have ff2 := fr_of B3 2
   have cb_B2 := blk2 B2
   have cb_B3 := blk3 B3
   have cb_B4 := blk2 B4
   refine badStep (by kernel_rfl) (fun K HK => ?_)
   simp only [PK]
   go_wp2_with fail
   refine HK.out _ _ ?_
   clear HK K
   rw [← HWb.out]
   clear HWb ff0 ff1 ff2 cb_B2 cb_B3 cb_B4
   replace RA := RA.chg hcb (fun k hk e => RA.ne B3 (by decide) (by rw [hk]; exact congrArg some e))
   replace RL := RL.chg hcb (fun k hk e => RL.ne B3 (by decide) (by rw [hk]; exact congrArg some e))
   replace RH := RH.chg hcb (fun k hk e => RH.ne B3 (by decide) (by rw [hk]; exact congrArg some e))
   replace B2 := hcb.blkS B2 (by unfold at1; omega)
   replace B4 := hcb.blkS B4 (by unfold at1; omega)
   replace B3 := hbb
   clear hbb
   replace s := s.put hcb (fun i hi => by have h1 : i = (w.heap.size + 1) := hi; omega)
   clear hcb
   refine doneStep (by kernel_rfl) ?_
   have cB := blk2 B2
   have cC := blk3 B3
   go_wp2_with fail
   refine bodyPost_ret (v := .tuple #[.agg #[.slice o1 t.ases.length c1, .slice o2 t.links.length c2], .agg #[.int .i64 a.ts, .int .i64 a.beta, .slice o_a a.hops.length c_a]]) (by simp [results, Try.results83, go_sem, cB, cC]) rfl ?_
   exact ⟨_, _, _, t, 1, a, rfl, TK, SD, RA, RL, RH, s.c, s.x⟩
  ·
   refine badStep (by kernel_rfl) (fun K HK => ?_)
   simp only [PK]
   go_wp2_with fail
   have hbs := s.x.size
   refine (s_l9Grow g t (.slice o1 t.ases.length c1) (.slice o2 t.links.length c2) 1 _ _ _ s.c TK (St.ofF RA hgw) (St.ofF RL hgw)).mono ?_
   rintro e w6 ⟨va, a, rfl, SD, RH, hcq, hzq⟩
   replace RH := RH.mono hbs
   replace B2 := hzq.blkS B2 (by unfold at1; omega)
   replace B3 := hzq.blkS B3 (by unfold at1; omega)
   replace B4 := hzq.blkS B4 (by unfold at1; omega)
   replace RA := RA.at1 hzq hgw
   replace RL := RL.at1 hzq hgw
   replace s := s.draw hcq hzq
   clear hcq hzq hbs
   obtain ⟨o_a, c_a, rfl, _⟩ := (OwnF.rd (hf := Hop.flen) RH).shape
   go_wp2_with fail
   refine HK.out _ _ ?_
   clear HK K
   have cB := blk2 B4
   refine blkStep (fun K HK => ?_)
   simp only [PK]
   go_wp2_with fail
   refine HK.out _ _ ?_
   clear HK K
   clear cB
   obtain ⟨wpa, hwa, hba, hca⟩ := two_set B2 (.slice o1 t.ases.length c1) (.slice o2 t.links.length c2)
   have HWa := Lib.hid hwa
   clear hwa
   have ff0 := fr_of B2 0
   have ff1 := fr_of B2 1
   have cb_B2 := blk2 B2
   have cb_B3 := blk3 B3
   have cb_B4 := blk2 B4
   refine badStep (by kernel_rfl) (fun K HK => ?_)
   simp only [PK]
   go_wp2_with fail
   refine HK.out _ _ ?_
   clear HK K
   rw [← HWa.out]
   clear HWa ff0 ff1 cb_B2 cb_B3 cb_B4
   replace RA := RA.chg hca (fun k hk e => RA.ne B2 (by decide) (by rw [hk]; exact congrArg some e))
   replace RL := RL.chg hca (fun k hk e => RL.ne B2 (by decide) (by rw [hk]; exact congrArg some e))
   replace RH := RH.chg hca (fun k hk e => RH.ne B2 (by decide) (by rw [hk]; exact congrArg some e))
   replace B3 := hca.blkS B3 (by unfold at1; omega)
   replace B4 := hca.blkS B4 (by unfold at1; omega)
   replace B2 := hba
   clear hba
   replace s := s.put hca (fun i hi => by have h1 : i = w.heap.size := hi; omega)
   clear hca
   obtain ⟨wpb, hwb, hbb, hcb⟩ := three_set B3 (.int .i64 a.ts) (.int .i64 a.beta) (.slice o_a a.hops.length c_a)
   have HWb := Lib.hid hwb
   clear hwb
   have ff0 := fr_of B3 0
   have ff1 := fr_of B3 1
   have ff2 := fr_of B3 2
   have cb_B2 := blk2 B2
   have cb_B3 := blk3 B3
   have cb_B4 := blk2 B4
   refine badStep (by kernel_rfl) (fun K HK => ?_)
   simp only [PK]
   go_wp2_with fail
   refine HK.out _ _ ?_
   clear HK K
   rw [← HWb.out]
   clear HWb ff0 ff1 ff2 cb_B2 cb_B3 cb_B4
   replace RA := RA.chg hcb (fun k hk e => RA.ne B3 (by decide) (by rw [hk]; exact congrArg some e))
   replace RL := RL.chg hcb (fun k hk e => RL.ne B3 (by decide) (by rw [hk]; exact congrArg some e))
   replace RH := RH.chg hcb (fun k hk e => RH.ne B3 (by decide) (by rw [hk]; exact congrArg some e))
   replace B2 := hcb.blkS B2 (by unfold at1; omega)
   replace B4 := hcb.blkS B4 (by unfold at1; omega)
   replace B3 := hbb
   clear hbb
   replace s := s.put hcb (fun i hi => by have h1 : i = (w.heap.size + 1) := hi; omega)
   clear hcb
   refine doneStep (by kernel_rfl) ?_
   have cB := blk2 B2
   have cC := blk3 B3
   go_wp2_with fail
   refine bodyPost_ret (v := .tuple #[.agg #[.slice o1 t.ases.length c1, .slice o2 t.links.length c2], .agg #[.int .i64 a.ts, .int .i64 a.beta, .slice o_a a.hops.length c_a]]) (by simp [results, Try.results83, go_sem, cB, cC]) rfl ?_
   exact ⟨_, _, _, t, 1, a, rfl, TK, SD, RA, RL, RH, s.c, s.x⟩
end
end Go.Proofs.Ytcpfmhgfaliemaa
