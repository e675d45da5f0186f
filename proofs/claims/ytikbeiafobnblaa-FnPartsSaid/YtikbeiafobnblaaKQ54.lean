/- What these laws need: FnParts: Draws of a topology with a segment, mostly spoiled, and of pairs of segments. Draws of what is checked of segments. -/
import Derived.Test.YtikbeiafobnblaaKQ20
import Derived.Test.YtikbeiafobnblaaKQ26
import Derived.Test.YtikbeiafobnblaaKQ51
namespace Go.Proofs.Ytikbeiafobnblaa
section
open Go.ChangeShapes Go.WideShapes Go.ChangeAt Go.RowKit Go.Deep
set_option maxRecDepth 100000 in
set_option maxHeartbeats 20000000 in
theorem s_l9Any (g : Nat)  (cv : Value) (cd : List Int) (w : World) (hc : Cur g cv cd w) :
  Calls Try.prog 115 #[.pointer (some ⟨g, 0, none⟩)] w fun e w' => ∃ (v1 v2 v : Value) (t : Topo) (a : Seg), e = .returned (.tuple #[.agg #[v1, v2], .agg #[.int .i64 a.ts, .int .i64 a.beta, v]]) ∧ TopoOk t ∧ a.hops.length ≤ 5 ∧ OwnF ASd.f 3 w.heap.size 179 w' v1 t.ases ∧ OwnF Lnk.f 5 w.heap.size 183 w' v2 t.links ∧ OwnF Hop.f 5 w.heap.size 146 w' v a.hops ∧ Cur g cv cd w' ∧ Chg (at1 g) w w' := by
 have hgw := hc.lt
 have s : DSt g cv cd w ((w.alloc (.cells #[.slice none 0 0, .slice none 0 0] 41)).alloc (.cells #[.int .i64 0, .int .i64 0, .slice none 0 0] 60)) := ⟨hc.ext (ext2 w _ _), Chg.ofExt (ext2 w _ _), hc⟩
 have B2 := (al2 w (.cells #[.slice none 0 0, .slice none 0 0] 41) (.cells #[.int .i64 0, .int .i64 0, .slice none 0 0] 60)).1
 have B3 := (al2 w (.cells #[.slice none 0 0, .slice none 0 0] 41) (.cells #[.int .i64 0, .int .i64 0, .slice none 0 0] 60)).2
 go_enter Try.func115, Try.ntmps115
 go_wp2_with fail
 have hbs := s.x.size
 refine (s_l9Draw g _ _ _ s.c).mono ?_
 rintro e w1 ⟨v1, v2, va, t, kd, a, rfl, TK, SD, RA, RL, RH, hcq, hzq⟩
 replace RA := RA.mono hbs
 replace RL := RL.mono hbs
 replace RH := RH.mono hbs
 replace B2 := hzq.blkS B2 (by unfold at1; omega)
 replace B3 := hzq.blkS B3 (by unfold at1; omega)
 replace s := s.draw hcq hzq
 clear hcq hzq hbs
 obtain ⟨o1, c1, rfl, _⟩ := (OwnF.rd (hf := ASd.flen) RA).shape
 obtain ⟨o2, c2, rfl, _⟩ := (OwnF.rd (hf := Lnk.flen) RL).shape
 obtain ⟨o_a, c_a, rfl, _⟩ := (OwnF.rd (hf := Hop.flen) RH).shape
 have hl5 := SD.len
 have cb_B2 := blk2 B2
 have cb_B3 := blk3 B3
 go_upto_region 2 with (fail)
 clear cb_B2 cb_B3
 have hxa := ext2 w1 (.cells #[.slice o1 t.ases.length c1, .slice o2 t.links.length c2] 41) (.cells #[.int .i64 a.ts, .int .i64 a.beta, .slice o_a a.hops.length c_a] 60)
 have BB := al2 w1 (.cells #[.slice o1 t.ases.length c1, .slice o2 t.links.length c2] 41) (.cells #[.int .i64 a.ts, .int .i64 a.beta, .slice o_a a.hops.length c_a] 60)
 have ltw_B4 : w.heap.size ≤ w1.heap.size := s.x.size
 have lt_B2_B4 : w.heap.size < w1.heap.size := blk_lt B2
 have lt_B3_B4 : (w.heap.size + 1) < w1.heap.size := blk_lt B3
 replace B2 := Ext.block hxa B2
 replace B3 := Ext.block hxa B3
 replace RA := RA.ext hxa
 replace RL := RL.ext hxa
 replace RH := RH.ext hxa
 replace s := s.ext hxa
 have B4 := BB.1
 have B5 := BB.2
 obtain ⟨b4, eb4⟩ : ∃ b, b = w1.heap.size := ⟨_, rfl⟩
 rw [← eb4] at B4 B5 ltw_B4 lt_B2_B4 lt_B3_B4 ⊢
 clear hxa BB
 generalize ((w1.alloc (.cells #[.slice o1 t.ases.length c1, .slice o2 t.links.length c2] 41)).alloc (.cells #[.int .i64 a.ts, .int .i64 a.beta, .slice o_a a.hops.length c_a] 60)) = wa at B2 B3 B4 B5 RA RL RH s ⊢
 clear eb4
 have cb_B2 := blk2 B2
 have cb_B3 := blk3 B3
 have cb_B4 := blk2 B4
 have cb_B5 := blk3 B5
 go_wp2_with fail
 clear cb_B2 cb_B3 cb_B4 cb_B5
 have hbs := s.x.size
 refine (s_l1Once g (3) _ _ _ s.c).mono ?_
 rintro e w2 ⟨b, rfl, hcq, hzq⟩
 replace B2 := hzq.blkS B2 (by unfold at1; omega)
 replace B3 := hzq.blkS B3 (by unfold at1; omega)
 replace B4 := hzq.blkS B4 (by unfold at1; omega)
 replace B5 := hzq.blkS B5 (by unfold at1; omega)
 replace RA := RA.at1 hzq hgw
 replace RL := RL.at1 hzq hgw
 replace RH := RH.at1 hzq hgw
 replace s := s.draw hcq hzq
 clear hcq hzq hbs
 cases b
 case false =>
  have cb_B2 := blk2 B2
  have cb_B3 := blk3 B3
  have cb_B4 := blk2 B4
  have cb_B5 := blk3 B5
  go_upto_region 4 with (fail)
  clear cb_B2 cb_B3 cb_B4 cb_B5
  replace B2 := Ext.block ((Ext.refl w2).drew) B2
  replace B3 := Ext.block ((Ext.refl w2).drew) B3
  replace B4 := Ext.block ((Ext.refl w2).drew) B4
  replace B5 := Ext.block ((Ext.refl w2).drew) B5
  replace RA := RA.ext ((Ext.refl w2).drew)
  replace RL := RL.ext ((Ext.refl w2).drew)
  replace RH := RH.ext ((Ext.refl w2).drew)
  replace s := s.ext ((Ext.refl w2).drew)
  refine planStep (.blk [0] (.two 1 2 (.one 2 (.one 3 .done)) (.blk [1] (.one 3 .done)))) [2, 3] (by kernel_rfl) (by kernel_rfl) ?_
  generalize w2.drew = wdd at B2 B3 B4 B5 RA RL RH s ⊢
  have cB := blk2 B4
  refine blkStep (fun K HK => ?_)
  simp only [pick, List.filterMap_cons, List.filterMap_nil, List.getElem?_toArray, List.getElem?_cons_zero]
  go_wp2_with fail
  refine HK.out _ _ ?_
  clear HK K
  clear cB
  refine twoStep ?_ ?_
  ·
   have cB := blk3 B5
   refine oneStep (fun K HK => ?_)
   simp only [PK]
   go_wp2_with fail
   refine HK.out _ _ (Ext.refl _) ?_
   clear HK K cB
   obtain ⟨wpa, hwa, hba, hca⟩ := two_set B2 (.slice o1 t.ases.length c1) (.slice o2 t.links.length c2)
   have HWa := Lib.hid hwa
   clear hwa
   have ff0 := fr_of B2 0
   have ff1 := fr_of B2 1
   have cb_B2 := blk2 B2
   have cb_B3 := blk3 B3
   have cb_B4 := blk2 B4
   have cb_B5 := blk3 B5
   refine badStep (by kernel_rfl) (fun K HK => ?_)
   simp only [PK]
   go_wp2_with fail
   refine HK.out _ _ ?_
   clear HK K
   rw [← HWa.out]
   clear HWa ff0 ff1 cb_B2 cb_B3 cb_B4 cb_B5
   replace RA := RA.chg hca (fun k hk e => RA.ne B2 (by decide) (by rw [hk]; exact congrArg some e))
   replace RL := RL.chg hca (fun k hk e => RL.ne B2 (by decide) (by rw [hk]; exact congrArg some e))
   replace RH := RH.chg hca (fun k hk e => RH.ne B2 (by decide) (by rw [hk]; exact congrArg some e))
   replace B3 := hca.blkS B3 (by unfold at1; omega)
   replace B4 := hca.blkS B4 (by unfold at1; omega)
   replace B5 := hca.blkS B5 (by unfold at1; omega)
   replace B2 := hba
   clear hba
   replace s := s.put hca (fun i hi => by have h1 : i = w.heap.size := hi; omega)
   clear hca
   obtain ⟨wpb, hwb, hbb, hcb⟩ := three_set B3 (.int .i64 a.ts) (.int .i64 a.beta) (.slice o_a a.hops.length c_a)
   have HWb := Lib.hid hwb
   clear hwb
   have ff0 := fr_of B3 0
   have ff1 := fr_of B3 1
   have ff2 := fr_of B3 2
   have cb_B2 := blk2 B2
   have cb_B3 := blk3 B3
   have cb_B4 := blk2 B4
   have cb_B5 := blk3 B5
   refine badStep (by kernel_rfl) (fun K HK => ?_)
   simp only [PK]
   go_wp2_with fail
   refine HK.out _ _ ?_
   clear HK K
   rw [← HWb.out]
   clear HWb ff0 ff1 ff2 cb_B2 cb_B3 cb_B4 cb_B5
   replace RA := RA.chg hcb (fun k hk e => RA.ne B3 (by decide) (by rw [hk]; exact congrArg some e))
   replace RL := RL.chg hcb (fun k hk e => RL.ne B3 (by decide) (by rw [hk]; exact congrArg some e))
   replace RH := RH.chg hcb (fun k hk e => RH.ne B3 (by decide) (by rw [hk]; exact congrArg some e))
   replace B2 := hcb.blkS B2 (by unfold at1; omega)
   replace B4 := hcb.blkS B4 (by unfold at1; omega)
   replace B5 := hcb.blkS B5 (by unfold at1; omega)
   replace B3 := hbb
   clear hbb
   replace s := s.put hcb (fun i hi => by have h1 : i = (w.heap.size + 1) := hi; omega)
   clear hcb
   refine doneStep (by kernel_rfl) ?_
   have cB := blk2 B2
   have cC := blk3 B3
   go_wp2_with fail
   refine bodyPost_ret (v := .tuple #[.agg #[.slice o1 t.ases.length c1, .slice o2 t.links.length c2], .agg #[.int .i64 a.ts, .int .i64 a.beta, .slice o_a a.hops.length c_a]]) (by simp [results, Try.results115, go_sem, cB, cC]) rfl ?_
   exact ⟨_, _, _, t, a, rfl, TK, by omega, RA, RL, RH, s.c, s.x⟩
  ·
   obtain ⟨wpa, hwa, hba, hca⟩ := two_set B2 (.slice o1 t.ases.length c1) (.slice o2 t.links.length c2)
   have HWa := Lib.hid hwa
   clear hwa
   have ff0 := fr_of B2 0
   have ff1 := fr_of B2 1
   have cb_B2 := blk2 B2
   have cb_B3 := blk3 B3
   have cb_B4 := blk2 B4
   have cb_B5 := blk3 B5
   refine badStep (by kernel_rfl) (fun K HK => ?_)
   simp only [PK]
   go_wp2_with fail
   refine HK.out _ _ ?_
   clear HK K
   rw [← HWa.out]
   clear HWa ff0 ff1 cb_B2 cb_B3 cb_B4 cb_B5
   replace RA := RA.chg hca (fun k hk e => RA.ne B2 (by decide) (by rw [hk]; exact congrArg some e))
   replace RL := RL.chg hca (fun k hk e => RL.ne B2 (by decide) (by rw [hk]; exact congrArg some e))
   replace RH := RH.chg hca (fun k hk e => RH.ne B2 (by decide) (by rw [hk]; exact congrArg some e))
   replace B3 := hca.blkS B3 (by unfold at1; omega)
   replace B4 := hca.blkS B4 (by unfold at1; omega)
   replace B5 := hca.blkS B5 (by unfold at1; omega)
   replace B2 := hba
   clear hba
   replace s := s.put hca (fun i hi => by have h1 : i = w.heap.size := hi; omega)
   clear hca
   have cB := blk3 B5
   refine blkStep (fun K HK => ?_)
   simp only [PK]
   go_wp2_with fail
   refine HK.out _ _ ?_
   clear HK K
   clear cB
   obtain ⟨wpb, hwb, hbb, hcb⟩ := three_set B3 (.int .i64 a.ts) (.int .i64 a.beta) (.slice o_a a.hops.length c_a)
   have HWb := Lib.hid hwb
   clear hwb
   have ff0 := fr_of B3 0
   have ff1 := fr_of B3 1
   have ff2 := fr_of B3 2
   have cb_B2 := blk2 B2
   have cb_B3 := blk3 B3
   have cb_B4 := blk2 B4
   have cb_B5 := blk3 B5
   refine badStep (by kernel_rfl) (fun K HK => ?_)
   simp only [PK]
   go_wp2_with fail
   refine HK.out _ _ ?_
   clear HK K
   rw [← HWb.out]
   clear HWb ff0 ff1 ff2 cb_B2 cb_B3 cb_B4 cb_B5
   replace RA := RA.chg hcb (fun k hk e => RA.ne B3 (by decide) (by rw [hk]; exact congrArg some e))
   replace RL := RL.chg hcb (fun k hk e => RL.ne B3 (by decide) (by rw [hk]; exact congrArg some e))
   replace RH := RH.chg hcb (fun k hk e => RH.ne B3 (by decide) (by rw [hk]; exact congrArg some e))
   replace B2 := hcb.blkS B2 (by unfold at1; omega)
   replace B4 := hcb.blkS B4 (by unfold at1; omega)
   replace B5 := hcb.blkS B5 (by unfold at1; omega)
   replace B3 := hbb
   clear hbb
   replace s := s.put hcb (fun i hi => by have h1 : i = (w.heap.size + 1) := hi; omega)
   clear hcb
   refine doneStep (by kernel_rfl) ?_
   have cB := blk2 B2
   have cC := blk3 B3
   go_wp2_with fail
   refine bodyPost_ret (v := .tuple #[.agg #[.slice o1 t.ases.length c1, .slice o2 t.links.length c2], .agg #[.int .i64 a.ts, .int .i64 a.beta, .slice o_a a.hops.length c_a]]) (by simp [results, Try.results115, go_sem, cB, cC]) rfl ?_
   exact ⟨_, _, _, t, a, rfl, TK, by omega, RA, RL, RH, s.c, s.x⟩
 case true =>
  have cb_B2 := blk2 B2
  have cb_B3 := blk3 B3
  have cb_B4 := blk2 B4
  have cb_B5 := blk3 B5
  go_wp2_with fail
  clear cb_B2 cb_B3 cb_B4 cb_B5
  have hbs := s.x.size
  refine (s_l9Spoil g a (.slice o_a a.hops.length c_a) _ _ _ s.c (St.ofF RH hgw) (by omega)).mono ?_
  rintro e w3 ⟨vb, b, rfl, hlb, RB, hcq, hzq⟩
  replace RB := RB.mono hbs
  replace B2 := hzq.blkS B2 (by unfold at1; omega)
  replace B3 := hzq.blkS B3 (by unfold at1; omega)
  replace B4 := hzq.blkS B4 (by unfold at1; omega)
  replace B5 := hzq.blkS B5 (by unfold at1; omega)
  replace RA := RA.at1 hzq hgw
  replace RL := RL.at1 hzq hgw
  replace RH := RH.at1 hzq hgw
  replace s := s.draw hcq hzq
  clear hcq hzq hbs
  obtain ⟨o_b, c_b, rfl, _⟩ := (OwnF.rd (hf := Hop.flen) RB).shape
  obtain ⟨wpc, hwc, hbc, hcc⟩ := three_set B5 (.int .i64 b.ts) (.int .i64 b.beta) (.slice o_b b.hops.length c_b)
  have HWc := Lib.hid hwc
  clear hwc
  have ff0 := fr_of B5 0
  have ff1 := fr_of B5 1
  have ff2 := fr_of B5 2
  have cb_B2 := blk2 B2
  have cb_B3 := blk3 B3
  have cb_B4 := blk2 B4
  have cb_B5 := blk3 B5
  go_upto_region 4 with (fail)
  rw [← HWc.out]
  clear HWc ff0 ff1 ff2 cb_B2 cb_B3 cb_B4 cb_B5
  replace RA := RA.chg hcc (fun k hk e => RA.ne B5 (by decide) (by rw [hk]; exact congrArg some e))
  replace RL := RL.chg hcc (fun k hk e => RL.ne B5 (by decide) (by rw [hk]; exact congrArg some e))
  replace RH := RH.chg hcc (fun k hk e => RH.ne B5 (by decide) (by rw [hk]; exact congrArg some e))
  replace RB := RB.chg hcc (fun k hk e => RB.ne B5 (by decide) (by rw [hk]; exact congrArg some e))
  replace B2 := hcc.blkS B2 (by unfold at1; omega)
  replace B3 := hcc.blkS B3 (by unfold at1; omega)
  replace B4 := hcc.blkS B4 (by unfold at1; omega)
  replace B5 := hbc
  clear hbc
  replace s := s.put hcc (fun i hi => by have h1 : i = (b4 + 1) := hi; omega)
  clear hcc
  clear RH
  have cb_B2 := blk2 B2
  have cb_B3 := blk3 B3
  have cb_B4 := blk2 B4
  have cb_B5 := blk3 B5
  go_upto_region 4 with (fail)
  clear cb_B2 cb_B3 cb_B4 cb_B5
  replace B2 := Ext.block ((Ext.refl wpc).drew) B2
  replace B3 := Ext.block ((Ext.refl wpc).drew) B3
  replace B4 := Ext.block ((Ext.refl wpc).drew) B4
  replace B5 := Ext.block ((Ext.refl wpc).drew) B5
  replace RA := RA.ext ((Ext.refl wpc).drew)
  replace RL := RL.ext ((Ext.refl wpc).drew)
  replace RB := RB.ext ((Ext.refl wpc).drew)
  replace s := s.ext ((Ext.refl wpc).drew)
  refine planStep (.blk [0] (.two 1 2 (.one 2 (.one 3 .done)) (.blk [1] (.one 3 .done)))) [2, 3] (by kernel_rfl) (by kernel_rfl) ?_
  generalize wpc.drew = wdd at B2 B3 B4 B5 RA RL RB s ⊢
  have cB := blk2 B4
  refine blkStep (fun K HK => ?_)
  simp only [pick, List.filterMap_cons, List.filterMap_nil, List.getElem?_toArray, List.getElem?_cons_zero]
  go_wp2_with fail
  refine HK.out _ _ ?_
  clear HK K
  clear cB
  refine twoStep ?_ ?_
  ·
   have cB := blk3 B5
   refine oneStep (fun K HK => ?_)
   simp only [PK]
   go_wp2_with fail
   refine HK.out _ _ (Ext.refl _) ?_
   clear HK K cB
   obtain ⟨wpa, hwa, hba, hca⟩ := two_set B2 (.slice o1 t.ases.length c1) (.slice o2 t.links.length c2)
   have HWa := Lib.hid hwa
   clear hwa
   have ff0 := fr_of B2 0
   have ff1 := fr_of B2 1
   have cb_B2 := blk2 B2
   have cb_B3 := blk3 B3
   have cb_B4 := blk2 B4
   have cb_B5 := blk3 B5
   refine badStep (by kernel_rfl) (fun K HK => ?_)
   simp only [PK]
   go_wp2_with fail
   refine HK.out _ _ ?_
   clear HK K
   rw [← HWa.out]
   clear HWa ff0 ff1 cb_B2 cb_B3 cb_B4 cb_B5
   replace RA := RA.chg hca (fun k hk e => RA.ne B2 (by decide) (by rw [hk]; exact congrArg some e))
   replace RL := RL.chg hca (fun k hk e => RL.ne B2 (by decide) (by rw [hk]; exact congrArg some e))
   replace RB := RB.chg hca (fun k hk e => RB.ne B2 (by decide) (by rw [hk]; exact congrArg some e))
   replace B3 := hca.blkS B3 (by unfold at1; omega)
   replace B4 := hca.blkS B4 (by unfold at1; omega)
   replace B5 := hca.blkS B5 (by unfold at1; omega)
   replace B2 := hba
   clear hba
   replace s := s.put hca (fun i hi => by have h1 : i = w.heap.size := hi; omega)
   clear hca
   obtain ⟨wpb, hwb, hbb, hcb⟩ := three_set B3 (.int .i64 b.ts) (.int .i64 b.beta) (.slice o_b b.hops.length c_b)
   have HWb := Lib.hid hwb
   clear hwb
   have ff0 := fr_of B3 0
   have ff1 := fr_of B3 1
   have ff2 := fr_of B3 2
   have cb_B2 := blk2 B2
   have cb_B3 := blk3 B3
   have cb_B4 := blk2 B4
   have cb_B5 := blk3 B5
   refine badStep (by kernel_rfl) (fun K HK => ?_)
   simp only [PK]
   go_wp2_with fail
   refine HK.out _ _ ?_
   clear HK K
   rw [← HWb.out]
   clear HWb ff0 ff1 ff2 cb_B2 cb_B3 cb_B4 cb_B5
   replace RA := RA.chg hcb (fun k hk e => RA.ne B3 (by decide) (by rw [hk]; exact congrArg some e))
   replace RL := RL.chg hcb (fun k hk e => RL.ne B3 (by decide) (by rw [hk]; exact congrArg some e))
   replace RB := RB.chg hcb (fun k hk e => RB.ne B3 (by decide) (by rw [hk]; exact congrArg some e))
   replace B2 := hcb.blkS B2 (by unfold at1; omega)
   replace B4 := hcb.blkS B4 (by unfold at1; omega)
   replace B5 := hcb.blkS B5 (by unfold at1; omega)
   replace B3 := hbb
   clear hbb
   replace s := s.put hcb (fun i hi => by have h1 : i = (w.heap.size + 1) := hi; omega)
   clear hcb
   refine doneStep (by kernel_rfl) ?_
   have cB := blk2 B2
   have cC := blk3 B3
   go_wp2_with fail
   refine bodyPost_ret (v := .tuple #[.agg #[.slice o1 t.ases.length c1, .slice o2 t.links.length c2], .agg #[.int .i64 b.ts, .int .i64 b.beta, .slice o_b b.hops.length c_b]]) (by simp [results, Try.results115, go_sem, cB, cC]) rfl ?_
   exact ⟨_, _, _, t, b, rfl, TK, by omega, RA, RL, RB, s.c, s.x⟩
  ·
   obtain ⟨wpa, hwa, hba, hca⟩ := two_set B2 (.slice o1 t.ases.length c1) (.slice o2 t.links.length c2)
   have HWa := Lib.hid hwa
   clear hwa
   have ff0 := fr_of B2 0
   have ff1 := fr_of B2 1
   have cb_B2 := blk2 B2
   have cb_B3 := blk3 B3
   have cb_B4 := blk2 B4
   have cb_B5 := blk3 B5
   refine badStep (by kernel_rfl) (fun K HK => ?_)
   simp only [PK]
   go_wp2_with fail
   refine HK.out _ _ ?_
   clear HK K
   rw [← HWa.out]
   clear HWa ff0 ff1 cb_B2 cb_B3 cb_B4 cb_B5
   replace RA := RA.chg hca (fun k hk e => RA.ne B2 (by decide) (by rw [hk]; exact congrArg some e))
   replace RL := RL.chg hca (fun k hk e => RL.ne B2 (by decide) (by rw [hk]; exact congrArg some e))
   replace RB := RB.chg hca (fun k hk e => RB.ne B2 (by decide) (by rw [hk]; exact congrArg some e))
   replace B3 := hca.blkS B3 (by unfold at1; omega)
   replace B4 := hca.blkS B4 (by unfold at1; omega)
   replace B5 := hca.blkS B5 (by unfold at1; omega)
   replace B2 := hba
   clear hba
   replace s := s.put hca (fun i hi => by have h1 : i = w.heap.size := hi; omega)
   clear hca
   have cB := blk3 B5
   refine blkStep (fun K HK => ?_)
   simp only [PK]
   go_wp2_with fail
   refine HK.out _ _ ?_
   clear HK K
   clear cB
   obtain ⟨wpb, hwb, hbb, hcb⟩ := three_set B3 (.int .i64 b.ts) (.int .i64 b.beta) (.slice o_b b.hops.length c_b)
   have HWb := Lib.hid hwb
   clear hwb
   have ff0 := fr_of B3 0
   have ff1 := fr_of B3 1
   have ff2 := fr_of B3 2
   have cb_B2 := blk2 B2
   have cb_B3 := blk3 B3
   have cb_B4 := blk2 B4
   have cb_B5 := blk3 B5
   refine badStep (by kernel_rfl) (fun K HK => ?_)
   simp only [PK]
   go_wp2_with fail
   refine HK.out _ _ ?_
   clear HK K
   rw [← HWb.out]
   clear HWb ff0 ff1 ff2 cb_B2 cb_B3 cb_B4 cb_B5
   replace RA := RA.chg hcb (fun k hk e => RA.ne B3 (by decide) (by rw [hk]; exact congrArg some e))
   replace RL := RL.chg hcb (fun k hk e => RL.ne B3 (by decide) (by rw [hk]; exact congrArg some e))
   replace RB := RB.chg hcb (fun k hk e => RB.ne B3 (by decide) (by rw [hk]; exact congrArg some e))
   replace B2 := hcb.blkS B2 (by unfold at1; omega)
   replace B4 := hcb.blkS B4 (by unfold at1; omega)
   replace B5 := hcb.blkS B5 (by unfold at1; omega)
   replace B3 := hbb
   clear hbb
   replace s := s.put hcb (fun i hi => by have h1 : i = (w.heap.size + 1) := hi; omega)
   clear hcb
   refine doneStep (by kernel_rfl) ?_
   have cB := blk2 B2
   have cC := blk3 B3
   go_wp2_with fail
   refine bodyPost_ret (v := .tuple #[.agg #[.slice o1 t.ases.length c1, .slice o2 t.links.length c2], .agg #[.int .i64 b.ts, .int .i64 b.beta, .slice o_b b.hops.length c_b]]) (by simp [results, Try.results115, go_sem, cB, cC]) rfl ?_
   exact ⟨_, _, _, t, b, rfl, TK, by omega, RA, RL, RB, s.c, s.x⟩
end
section
open Go.ChangeShapes Go.WideShapes Go.ChangeAt Go.RowKit Go.Deep
set_option maxRecDepth 100000 in
set_option maxHeartbeats 8000000 in
theorem s_DrawSegment (code : List Int) (cv : Value) (w : World) (hr : RdS Rep.byte w cv code) (hu : ∀ x ∈ code, U8 x) (hl : code.length ≤ 1048576) :
  Calls Try.prog 27 #[cv] w fun e w' => ∃ (v1 v2 v : Value) (t : Topo) (kind : Int) (a : Seg), e = .returned (.tuple #[.agg #[v1, v2], .agg #[.int .i64 a.ts, .int .i64 a.beta, v]]) ∧ TopoOk t ∧ SegDrawn t kind a ∧ OwnF ASd.f 3 w.heap.size 179 w' v1 t.ases ∧ OwnF Lnk.f 5 w.heap.size 183 w' v2 t.links ∧ OwnF Hop.f 5 w.heap.size 146 w' v a.hops ∧ Ext w w' := by
 have hx0 := ext2 w (.cells #[.slice none 0 0, .slice none 0 0] 41) (.cells #[.int .i64 0, .int .i64 0, .slice none 0 0] 60)
 have HB := al2 w (.cells #[.slice none 0 0, .slice none 0 0] 41) (.cells #[.int .i64 0, .int .i64 0, .slice none 0 0] 60)
 go_enter Try.func27, Try.ntmps27
 go_wp2_with fail
 refine (s_l1New code _ _ (hr.ext hx0) hu hl).mono ?_
 rintro e w1 ⟨g, rfl, hgl, hc1, hn1⟩
 have hgw := hc1.lt
 have s : DSt g cv code w1 w1 := ⟨hc1, Chg.refl _ _, hc1⟩
 have B2 := Ext.block hn1 HB.1
 have B3 := Ext.block hn1 HB.2
 have hg3 : w.heap.size + 1 < g := by simp at hgl; omega
 clear HB hc1
 have cb_B2 := blk2 B2
 have cb_B3 := blk3 B3
 go_wp2_with fail
 clear cb_B2 cb_B3
 have hbs := s.x.size
 refine (s_l9Draw g _ _ _ s.c).mono ?_
 rintro e w2 ⟨v1, v2, va, t, kd, a, rfl, TK, SD, RA, RL, RH, hcq, hzq⟩
 replace RA := RA.mono hbs
 replace RL := RL.mono hbs
 replace RH := RH.mono hbs
 replace B2 := hzq.blkS B2 (by unfold at1; omega)
 replace B3 := hzq.blkS B3 (by unfold at1; omega)
 replace s := s.draw hcq hzq
 clear hcq hzq hbs
 obtain ⟨o1, c1, rfl, _⟩ := (OwnF.rd (hf := ASd.flen) RA).shape
 obtain ⟨o2, c2, rfl, _⟩ := (OwnF.rd (hf := Lnk.flen) RL).shape
 obtain ⟨o_a, c_a, rfl, _⟩ := (OwnF.rd (hf := Hop.flen) RH).shape
 have hxe := hx0.trans (hn1.ofCur s.x hgl)
 have hwb := (hx0.trans hn1).size
 obtain ⟨wpa, hwa, hba, hca⟩ := two_set B2 (.slice o1 t.ases.length c1) (.slice o2 t.links.length c2)
 have B3' := hca.blkS B3 (by unfold at1; omega)
 obtain ⟨wpb, hwb, hbb, hcb⟩ := three_set B3' (.int .i64 a.ts) (.int .i64 a.beta) (.slice o_a a.hops.length c_a)
 have HWA := Lib.hid hwa
 have HWB := Lib.hid hwb
 have HBA := Lib.hid (hcb.blkS hba (by unfold at1; omega))
 have HBB := Lib.hid hbb
 clear hwa hwb hba hbb B3'
 have ff0 := fr_of B2 0
 have ff1 := fr_of B2 1
 have fg0 := fr_of B3 0
 have fg1 := fr_of B3 1
 have fg2 := fr_of B3 2
 have cb2 := blk2 B2
 have cb3 := blk3 B3
 go_wp2_with fail
 rw [← HWA.out, ← HWB.out]
 clear cb2 cb3 ff0 ff1 fg0 fg1 fg2
 replace RA := RA.chg hca (fun k hk e => RA.ne B2 (by decide) (by rw [hk]; exact congrArg some e))
 replace RL := RL.chg hca (fun k hk e => RL.ne B2 (by decide) (by rw [hk]; exact congrArg some e))
 replace RH := RH.chg hca (fun k hk e => RH.ne B2 (by decide) (by rw [hk]; exact congrArg some e))
 have B3'' := hca.blkS B3 (by unfold at1; omega)
 replace RA := RA.chg hcb (fun k hk e => RA.ne B3'' (by decide) (by rw [hk]; exact congrArg some e))
 replace RL := RL.chg hcb (fun k hk e => RL.ne B3'' (by decide) (by rw [hk]; exact congrArg some e))
 replace RH := RH.chg hcb (fun k hk e => RH.ne B3'' (by decide) (by rw [hk]; exact congrArg some e))
 have cB := blk2 HBA.out
 have cC := blk3 HBB.out
 have hxf := (hxe.chg hca (fun i hi => by have h1 : i = w.heap.size := hi; omega)).chg hcb (fun i hi => by have h1 : i = w.heap.size + 1 := hi; omega)
 refine bodyPost_ret (v := .tuple #[.agg #[.slice o1 t.ases.length c1, .slice o2 t.links.length c2], .agg #[.int .i64 a.ts, .int .i64 a.beta, .slice o_a a.hops.length c_a]]) (by simp [results, Try.results27, go_sem, cB, cC]) rfl ?_
 exact ⟨_, _, _, t, kd, a, rfl, TK, SD, RA.mono hwb, RL.mono hwb, RH.mono hwb, hxf⟩
end
end Go.Proofs.Ytikbeiafobnblaa
