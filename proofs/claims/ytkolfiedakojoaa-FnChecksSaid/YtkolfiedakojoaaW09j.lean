/- Draws of a topology with a segment, mostly spoiled, and of pairs of segments. No condition but the bounds that each theorem names. -/
import Derived.Test.YtkolfiedakojoaaW09i
namespace Go.Proofs.Ytkolfiedakojoaa
open Go.ChangeShapes Go.WideShapes Go.ChangeAt Go.RowKit Go.Deep

set_option maxRecDepth 100000 in
set_option maxHeartbeats 20000000 in
theorem s_l9Any (g : Nat)  (cv : Value) (cd : List Int) (w : World) (hc : Cur g cv cd w) :
    Calls Try.prog 111 #[.pointer (some ⟨g, 0, none⟩)] w fun e w' => ∃ (v1 v2 v : Value) (t : Topo) (a : Seg), e = .returned (.tuple #[.agg #[v1, v2], .agg #[.int .i64 a.ts, .int .i64 a.beta, v]]) ∧ TopoOk t ∧ a.hops.length ≤ 5 ∧ OwnF ASd.f 3 w.heap.size 136 w' v1 t.ases ∧ OwnF Lnk.f 5 w.heap.size 174 w' v2 t.links ∧ OwnF Hop.f 5 w.heap.size 73 w' v a.hops ∧ Cur g cv cd w' ∧ Chg (at1 g) w w' := by
  have hgw := hc.lt
  have s : DSt g cv cd w ((w.alloc (.cells #[.slice none 0 0, .slice none 0 0] 59)).alloc (.cells #[.int .i64 0, .int .i64 0, .slice none 0 0] 62)) := ⟨hc.ext (ext2 w _ _), Chg.ofExt (ext2 w _ _), hc⟩
  have B2 := (al2 w (.cells #[.slice none 0 0, .slice none 0 0] 59) (.cells #[.int .i64 0, .int .i64 0, .slice none 0 0] 62)).1
  have B3 := (al2 w (.cells #[.slice none 0 0, .slice none 0 0] 59) (.cells #[.int .i64 0, .int .i64 0, .slice none 0 0] 62)).2
  go_enter Try.func111, Try.ntmps111
  go_wp2_with fail
  have hbs := s.x.size
  refine (s_l9Draw g _ _ _ s.c).mono ?_
  rintro e w1 ⟨v1, v2, va, t, kd, a, rfl, TK, SD, RA, RL, RH, hcq, hzq⟩
  replace RA := RA.mono hbs
  replace RL := RL.mono hbs
  replace RH := RH.mono hbs
  replace B2 := hzq.blkS B2 (by unfold at1; omega)
  replace B3 := hzq.blkS B3 (by unfold at1; omega)
  replace s := s.draw hcq hzq
  clear hcq hzq hbs
  obtain ⟨o1, c1, rfl, _⟩ := (OwnF.rd (hf := ASd.flen) RA).shape
  obtain ⟨o2, c2, rfl, _⟩ := (OwnF.rd (hf := Lnk.flen) RL).shape
  obtain ⟨o_a, c_a, rfl, _⟩ := (OwnF.rd (hf := Hop.flen) RH).shape
  have hl5 := SD.len
  have cb_B2 := blk2 B2
  have cb_B3 := blk3 B3
  go_upto_region 2 with (fail)
  clear cb_B2 cb_B3
  have hxa := ext2 w1 (.cells #[.slice o1 t.ases.length c1, .slice o2 t.links.length c2] 59) (.cells #[.int .i64 a.ts, .int .i64 a.beta, .slice o_a a.hops.length c_a] 62)
  have BB := al2 w1 (.cells #[.slice o1 t.ases.length c1, .slice o2 t.links.length c2] 59) (.cells #[.int .i64 a.ts, .int .i64 a.beta, .slice o_a a.hops.length c_a] 62)
  have ltw_B4 : w.heap.size ≤ w1.heap.size := s.x.size
  have lt_B2_B4 : w.heap.size < w1.heap.size := blk_lt B2
  have lt_B3_B4 : (w.heap.size + 1) < w1.heap.size := blk_lt B3
  replace B2 := Ext.block hxa B2
  replace B3 := Ext.block hxa B3
  replace RA := RA.ext hxa
  replace RL := RL.ext hxa
  replace RH := RH.ext hxa
  replace s := s.ext hxa
  have B4 := BB.1
  have B5 := BB.2
  obtain ⟨b4, eb4⟩ : ∃ b, b = w1.heap.size := ⟨_, rfl⟩
  rw [← eb4] at B4 B5 ltw_B4 lt_B2_B4 lt_B3_B4 ⊢
  clear hxa BB
  generalize ((w1.alloc (.cells #[.slice o1 t.ases.length c1, .slice o2 t.links.length c2] 59)).alloc (.cells #[.int .i64 a.ts, .int .i64 a.beta, .slice o_a a.hops.length c_a] 62)) = wa at B2 B3 B4 B5 RA RL RH s ⊢
  clear eb4
  have cb_B2 := blk2 B2
  have cb_B3 := blk3 B3
  have cb_B4 := blk2 B4
  have cb_B5 := blk3 B5
  go_wp2_with fail
  clear cb_B2 cb_B3 cb_B4 cb_B5
  have hbs := s.x.size
  refine (s_l1Once g (3) _ _ _ s.c).mono ?_
  rintro e w2 ⟨b, rfl, hcq, hzq⟩
  replace B2 := hzq.blkS B2 (by unfold at1; omega)
  replace B3 := hzq.blkS B3 (by unfold at1; omega)
  replace B4 := hzq.blkS B4 (by unfold at1; omega)
  replace B5 := hzq.blkS B5 (by unfold at1; omega)
  replace RA := RA.at1 hzq hgw
  replace RL := RL.at1 hzq hgw
  replace RH := RH.at1 hzq hgw
  replace s := s.draw hcq hzq
  clear hcq hzq hbs
  cases b
  case false =>
    have cb_B2 := blk2 B2
    have cb_B3 := blk3 B3
    have cb_B4 := blk2 B4
    have cb_B5 := blk3 B5
    go_upto_region 4 with (fail)
    clear cb_B2 cb_B3 cb_B4 cb_B5
    replace B2 := Ext.block ((Ext.refl w2).drew) B2
    replace B3 := Ext.block ((Ext.refl w2).drew) B3
    replace B4 := Ext.block ((Ext.refl w2).drew) B4
    replace B5 := Ext.block ((Ext.refl w2).drew) B5
    replace RA := RA.ext ((Ext.refl w2).drew)
    replace RL := RL.ext ((Ext.refl w2).drew)
    replace RH := RH.ext ((Ext.refl w2).drew)
    replace s := s.ext ((Ext.refl w2).drew)
    refine planStep (.blk [0] (.two 1 2 (.one 2 (.one 3 .done)) (.blk [1] (.one 3 .done)))) [2, 3] (by kernel_rfl) (by kernel_rfl) ?_
    generalize w2.drew = wdd at B2 B3 B4 B5 RA RL RH s ⊢
    have cB := blk2 B4
    refine blkStep (fun K HK => ?_)
    simp only [pick, List.filterMap_cons, List.filterMap_nil, List.getElem?_toArray, List.getElem?_cons_zero]
    go_wp2_with fail
    refine HK.out _ _ ?_
    clear HK K
    clear cB
    refine twoStep ?_ ?_
    · have cB := blk3 B5
      refine oneStep (fun K HK => ?_)
      simp only [pick, List.filterMap_cons, List.filterMap_nil, List.getElem?_toArray, List.getElem?_cons_zero, List.getElem?_cons_succ]
      go_wp2_with fail
      refine HK.out _ _ (Ext.refl _) ?_
      clear HK K cB
      obtain ⟨wpa, hwa, hba, hca⟩ := two_set B2 (.slice o1 t.ases.length c1) (.slice o2 t.links.length c2)
      have HWa := Lib.hid hwa
      clear hwa
      have ff0 := fr_of B2 0
      have ff1 := fr_of B2 1
      have cb_B2 := blk2 B2
      have cb_B3 := blk3 B3
      have cb_B4 := blk2 B4
      have cb_B5 := blk3 B5
      refine badStep (by kernel_rfl) (fun K HK => ?_)
      simp only [pick, List.filterMap_cons, List.filterMap_nil, List.getElem?_toArray, List.getElem?_cons_zero, List.getElem?_cons_succ]
      go_wp2_with fail
      refine HK.out _ _ ?_
      clear HK K
      rw [← HWa.out]
      clear HWa ff0 ff1 cb_B2 cb_B3 cb_B4 cb_B5
      replace RA := RA.chg hca (fun k hk e => RA.ne B2 (by decide) (by rw [hk]; exact congrArg some e))
      replace RL := RL.chg hca (fun k hk e => RL.ne B2 (by decide) (by rw [hk]; exact congrArg some e))
      replace RH := RH.chg hca (fun k hk e => RH.ne B2 (by decide) (by rw [hk]; exact congrArg some e))
      replace B3 := hca.blkS B3 (by unfold at1; omega)
      replace B4 := hca.blkS B4 (by unfold at1; omega)
      replace B5 := hca.blkS B5 (by unfold at1; omega)
      replace B2 := hba
      clear hba
      replace s := s.put hca (fun i hi => by have h1 : i = w.heap.size := hi; omega)
      clear hca
      obtain ⟨wpb, hwb, hbb, hcb⟩ := three_set B3 (.int .i64 a.ts) (.int .i64 a.beta) (.slice o_a a.hops.length c_a)
      have HWb := Lib.hid hwb
      clear hwb
      have ff0 := fr_of B3 0
      have ff1 := fr_of B3 1
      have ff2 := fr_of B3 2
      have cb_B2 := blk2 B2
      have cb_B3 := blk3 B3
      have cb_B4 := blk2 B4
      have cb_B5 := blk3 B5
      refine badStep (by kernel_rfl) (fun K HK => ?_)
      simp only [pick, List.filterMap_cons, List.filterMap_nil, List.getElem?_toArray, List.getElem?_cons_zero, List.getElem?_cons_succ]
      go_wp2_with fail
      refine HK.out _ _ ?_
      clear HK K
      rw [← HWb.out]
      clear HWb ff0 ff1 ff2 cb_B2 cb_B3 cb_B4 cb_B5
      replace RA := RA.chg hcb (fun k hk e => RA.ne B3 (by decide) (by rw [hk]; exact congrArg some e))
      replace RL := RL.chg hcb (fun k hk e => RL.ne B3 (by decide) (by rw [hk]; exact congrArg some e))
      replace RH := RH.chg hcb (fun k hk e => RH.ne B3 (by decide) (by rw [hk]; exact congrArg some e))
      replace B2 := hcb.blkS B2 (by unfold at1; omega)
      replace B4 := hcb.blkS B4 (by unfold at1; omega)
      replace B5 := hcb.blkS B5 (by unfold at1; omega)
      replace B3 := hbb
      clear hbb
      replace s := s.put hcb (fun i hi => by have h1 : i = (w.heap.size + 1) := hi; omega)
      clear hcb
      refine doneStep (by kernel_rfl) ?_
      have cB := blk2 B2
      have cC := blk3 B3
      go_wp2_with fail
      refine bodyPost_ret (v := .tuple #[.agg #[.slice o1 t.ases.length c1, .slice o2 t.links.length c2], .agg #[.int .i64 a.ts, .int .i64 a.beta, .slice o_a a.hops.length c_a]]) (by simp [results, Try.results111, go_sem, cB, cC]) rfl ?_
      exact ⟨_, _, _, t, a, rfl, TK, by omega, RA, RL, RH, s.c, s.x⟩
    · obtain ⟨wpa, hwa, hba, hca⟩ := two_set B2 (.slice o1 t.ases.length c1) (.slice o2 t.links.length c2)
      have HWa := Lib.hid hwa
      clear hwa
      have ff0 := fr_of B2 0
      have ff1 := fr_of B2 1
      have cb_B2 := blk2 B2
      have cb_B3 := blk3 B3
      have cb_B4 := blk2 B4
      have cb_B5 := blk3 B5
      refine badStep (by kernel_rfl) (fun K HK => ?_)
      simp only [pick, List.filterMap_cons, List.filterMap_nil, List.getElem?_toArray, List.getElem?_cons_zero, List.getElem?_cons_succ]
      go_wp2_with fail
      refine HK.out _ _ ?_
      clear HK K
      rw [← HWa.out]
      clear HWa ff0 ff1 cb_B2 cb_B3 cb_B4 cb_B5
      replace RA := RA.chg hca (fun k hk e => RA.ne B2 (by decide) (by rw [hk]; exact congrArg some e))
      replace RL := RL.chg hca (fun k hk e => RL.ne B2 (by decide) (by rw [hk]; exact congrArg some e))
      replace RH := RH.chg hca (fun k hk e => RH.ne B2 (by decide) (by rw [hk]; exact congrArg some e))
      replace B3 := hca.blkS B3 (by unfold at1; omega)
      replace B4 := hca.blkS B4 (by unfold at1; omega)
      replace B5 := hca.blkS B5 (by unfold at1; omega)
      replace B2 := hba
      clear hba
      replace s := s.put hca (fun i hi => by have h1 : i = w.heap.size := hi; omega)
      clear hca
      have cB := blk3 B5
      refine blkStep (fun K HK => ?_)
      simp only [pick, List.filterMap_cons, List.filterMap_nil, List.getElem?_toArray, List.getElem?_cons_zero, List.getElem?_cons_succ]
      go_wp2_with fail
      refine HK.out _ _ ?_
      clear HK K
      clear cB
      obtain ⟨wpb, hwb, hbb, hcb⟩ := three_set B3 (.int .i64 a.ts) (.int .i64 a.beta) (.slice o_a a.hops.length c_a)
      have HWb := Lib.hid hwb
      clear hwb
      have ff0 := fr_of B3 0
      have ff1 := fr_of B3 1
      have ff2 := fr_of B3 2
      have cb_B2 := blk2 B2
      have cb_B3 := blk3 B3
      have cb_B4 := blk2 B4
      have cb_B5 := blk3 B5
      refine badStep (by kernel_rfl) (fun K HK => ?_)
      simp only [pick, List.filterMap_cons, List.filterMap_nil, List.getElem?_toArray, List.getElem?_cons_zero, List.getElem?_cons_succ]
      go_wp2_with fail
      refine HK.out _ _ ?_
      clear HK K
      rw [← HWb.out]
      clear HWb ff0 ff1 ff2 cb_B2 cb_B3 cb_B4 cb_B5
      replace RA := RA.chg hcb (fun k hk e => RA.ne B3 (by decide) (by rw [hk]; exact congrArg some e))
      replace RL := RL.chg hcb (fun k hk e => RL.ne B3 (by decide) (by rw [hk]; exact congrArg some e))
      replace RH := RH.chg hcb (fun k hk e => RH.ne B3 (by decide) (by rw [hk]; exact congrArg some e))
      replace B2 := hcb.blkS B2 (by unfold at1; omega)
      replace B4 := hcb.blkS B4 (by unfold at1; omega)
      replace B5 := hcb.blkS B5 (by unfold at1; omega)
      replace B3 := hbb
      clear hbb
      replace s := s.put hcb (fun i hi => by have h1 : i = (w.heap.size + 1) := hi; omega)
      clear hcb
      refine doneStep (by kernel_rfl) ?_
      have cB := blk2 B2
      have cC := blk3 B3
      go_wp2_with fail
      refine bodyPost_ret (v := .tuple #[.agg #[.slice o1 t.ases.length c1, .slice o2 t.links.length c2], .agg #[.int .i64 a.ts, .int .i64 a.beta, .slice o_a a.hops.length c_a]]) (by simp [results, Try.results111, go_sem, cB, cC]) rfl ?_
      exact ⟨_, _, _, t, a, rfl, TK, by omega, RA, RL, RH, s.c, s.x⟩
  case true =>
    have cb_B2 := blk2 B2
    have cb_B3 := blk3 B3
    have cb_B4 := blk2 B4
    have cb_B5 := blk3 B5
    go_wp2_with fail
    clear cb_B2 cb_B3 cb_B4 cb_B5
    have hbs := s.x.size
    refine (s_l9Spoil g a (.slice o_a a.hops.length c_a) _ _ _ s.c (St.ofF RH hgw) (by omega)).mono ?_
    rintro e w3 ⟨vb, b, rfl, hlb, RB, hcq, hzq⟩
    replace RB := RB.mono hbs
    replace B2 := hzq.blkS B2 (by unfold at1; omega)
    replace B3 := hzq.blkS B3 (by unfold at1; omega)
    replace B4 := hzq.blkS B4 (by unfold at1; omega)
    replace B5 := hzq.blkS B5 (by unfold at1; omega)
    replace RA := RA.at1 hzq hgw
    replace RL := RL.at1 hzq hgw
    replace RH := RH.at1 hzq hgw
    replace s := s.draw hcq hzq
    clear hcq hzq hbs
    obtain ⟨o_b, c_b, rfl, _⟩ := (OwnF.rd (hf := Hop.flen) RB).shape
    obtain ⟨wpc, hwc, hbc, hcc⟩ := three_set B5 (.int .i64 b.ts) (.int .i64 b.beta) (.slice o_b b.hops.length c_b)
    have HWc := Lib.hid hwc
    clear hwc
    have ff0 := fr_of B5 0
    have ff1 := fr_of B5 1
    have ff2 := fr_of B5 2
    have cb_B2 := blk2 B2
    have cb_B3 := blk3 B3
    have cb_B4 := blk2 B4
    have cb_B5 := blk3 B5
    go_upto_region 4 with (fail)
    rw [← HWc.out]
    clear HWc ff0 ff1 ff2 cb_B2 cb_B3 cb_B4 cb_B5
    replace RA := RA.chg hcc (fun k hk e => RA.ne B5 (by decide) (by rw [hk]; exact congrArg some e))
    replace RL := RL.chg hcc (fun k hk e => RL.ne B5 (by decide) (by rw [hk]; exact congrArg some e))
    replace RH := RH.chg hcc (fun k hk e => RH.ne B5 (by decide) (by rw [hk]; exact congrArg some e))
    replace RB := RB.chg hcc (fun k hk e => RB.ne B5 (by decide) (by rw [hk]; exact congrArg some e))
    replace B2 := hcc.blkS B2 (by unfold at1; omega)
    replace B3 := hcc.blkS B3 (by unfold at1; omega)
    replace B4 := hcc.blkS B4 (by unfold at1; omega)
    replace B5 := hbc
    clear hbc
    replace s := s.put hcc (fun i hi => by have h1 : i = (b4 + 1) := hi; omega)
    clear hcc
    clear RH
    have cb_B2 := blk2 B2
    have cb_B3 := blk3 B3
    have cb_B4 := blk2 B4
    have cb_B5 := blk3 B5
    go_upto_region 4 with (fail)
    clear cb_B2 cb_B3 cb_B4 cb_B5
    replace B2 := Ext.block ((Ext.refl wpc).drew) B2
    replace B3 := Ext.block ((Ext.refl wpc).drew) B3
    replace B4 := Ext.block ((Ext.refl wpc).drew) B4
    replace B5 := Ext.block ((Ext.refl wpc).drew) B5
    replace RA := RA.ext ((Ext.refl wpc).drew)
    replace RL := RL.ext ((Ext.refl wpc).drew)
    replace RB := RB.ext ((Ext.refl wpc).drew)
    replace s := s.ext ((Ext.refl wpc).drew)
    refine planStep (.blk [0] (.two 1 2 (.one 2 (.one 3 .done)) (.blk [1] (.one 3 .done)))) [2, 3] (by kernel_rfl) (by kernel_rfl) ?_
    generalize wpc.drew = wdd at B2 B3 B4 B5 RA RL RB s ⊢
    have cB := blk2 B4
    refine blkStep (fun K HK => ?_)
    simp only [pick, List.filterMap_cons, List.filterMap_nil, List.getElem?_toArray, List.getElem?_cons_zero]
    go_wp2_with fail
    refine HK.out _ _ ?_
    clear HK K
    clear cB
    refine twoStep ?_ ?_
    · have cB := blk3 B5
      refine oneStep (fun K HK => ?_)
      simp only [pick, List.filterMap_cons, List.filterMap_nil, List.getElem?_toArray, List.getElem?_cons_zero, List.getElem?_cons_succ]
      go_wp2_with fail
      refine HK.out _ _ (Ext.refl _) ?_
      clear HK K cB
      obtain ⟨wpa, hwa, hba, hca⟩ := two_set B2 (.slice o1 t.ases.length c1) (.slice o2 t.links.length c2)
      have HWa := Lib.hid hwa
      clear hwa
      have ff0 := fr_of B2 0
      have ff1 := fr_of B2 1
      have cb_B2 := blk2 B2
      have cb_B3 := blk3 B3
      have cb_B4 := blk2 B4
      have cb_B5 := blk3 B5
      refine badStep (by kernel_rfl) (fun K HK => ?_)
      simp only [pick, List.filterMap_cons, List.filterMap_nil, List.getElem?_toArray, List.getElem?_cons_zero, List.getElem?_cons_succ]
      go_wp2_with fail
      refine HK.out _ _ ?_
      clear HK K
      rw [← HWa.out]
      clear HWa ff0 ff1 cb_B2 cb_B3 cb_B4 cb_B5
      replace RA := RA.chg hca (fun k hk e => RA.ne B2 (by decide) (by rw [hk]; exact congrArg some e))
      replace RL := RL.chg hca (fun k hk e => RL.ne B2 (by decide) (by rw [hk]; exact congrArg some e))
      replace RB := RB.chg hca (fun k hk e => RB.ne B2 (by decide) (by rw [hk]; exact congrArg some e))
      replace B3 := hca.blkS B3 (by unfold at1; omega)
      replace B4 := hca.blkS B4 (by unfold at1; omega)
      replace B5 := hca.blkS B5 (by unfold at1; omega)
      replace B2 := hba
      clear hba
      replace s := s.put hca (fun i hi => by have h1 : i = w.heap.size := hi; omega)
      clear hca
      obtain ⟨wpb, hwb, hbb, hcb⟩ := three_set B3 (.int .i64 b.ts) (.int .i64 b.beta) (.slice o_b b.hops.length c_b)
      have HWb := Lib.hid hwb
      clear hwb
      have ff0 := fr_of B3 0
      have ff1 := fr_of B3 1
      have ff2 := fr_of B3 2
      have cb_B2 := blk2 B2
      have cb_B3 := blk3 B3
      have cb_B4 := blk2 B4
      have cb_B5 := blk3 B5
      refine badStep (by kernel_rfl) (fun K HK => ?_)
      simp only [pick, List.filterMap_cons, List.filterMap_nil, List.getElem?_toArray, List.getElem?_cons_zero, List.getElem?_cons_succ]
      go_wp2_with fail
      refine HK.out _ _ ?_
      clear HK K
      rw [← HWb.out]
      clear HWb ff0 ff1 ff2 cb_B2 cb_B3 cb_B4 cb_B5
      replace RA := RA.chg hcb (fun k hk e => RA.ne B3 (by decide) (by rw [hk]; exact congrArg some e))
      replace RL := RL.chg hcb (fun k hk e => RL.ne B3 (by decide) (by rw [hk]; exact congrArg some e))
      replace RB := RB.chg hcb (fun k hk e => RB.ne B3 (by decide) (by rw [hk]; exact congrArg some e))
      replace B2 := hcb.blkS B2 (by unfold at1; omega)
      replace B4 := hcb.blkS B4 (by unfold at1; omega)
      replace B5 := hcb.blkS B5 (by unfold at1; omega)
      replace B3 := hbb
      clear hbb
      replace s := s.put hcb (fun i hi => by have h1 : i = (w.heap.size + 1) := hi; omega)
      clear hcb
      refine doneStep (by kernel_rfl) ?_
      have cB := blk2 B2
      have cC := blk3 B3
      go_wp2_with fail
      refine bodyPost_ret (v := .tuple #[.agg #[.slice o1 t.ases.length c1, .slice o2 t.links.length c2], .agg #[.int .i64 b.ts, .int .i64 b.beta, .slice o_b b.hops.length c_b]]) (by simp [results, Try.results111, go_sem, cB, cC]) rfl ?_
      exact ⟨_, _, _, t, b, rfl, TK, by omega, RA, RL, RB, s.c, s.x⟩
    · obtain ⟨wpa, hwa, hba, hca⟩ := two_set B2 (.slice o1 t.ases.length c1) (.slice o2 t.links.length c2)
      have HWa := Lib.hid hwa
      clear hwa
      have ff0 := fr_of B2 0
      have ff1 := fr_of B2 1
      have cb_B2 := blk2 B2
      have cb_B3 := blk3 B3
      have cb_B4 := blk2 B4
      have cb_B5 := blk3 B5
      refine badStep (by kernel_rfl) (fun K HK => ?_)
      simp only [pick, List.filterMap_cons, List.filterMap_nil, List.getElem?_toArray, List.getElem?_cons_zero, List.getElem?_cons_succ]
      go_wp2_with fail
      refine HK.out _ _ ?_
      clear HK K
      rw [← HWa.out]
      clear HWa ff0 ff1 cb_B2 cb_B3 cb_B4 cb_B5
      replace RA := RA.chg hca (fun k hk e => RA.ne B2 (by decide) (by rw [hk]; exact congrArg some e))
      replace RL := RL.chg hca (fun k hk e => RL.ne B2 (by decide) (by rw [hk]; exact congrArg some e))
      replace RB := RB.chg hca (fun k hk e => RB.ne B2 (by decide) (by rw [hk]; exact congrArg some e))
      replace B3 := hca.blkS B3 (by unfold at1; omega)
      replace B4 := hca.blkS B4 (by unfold at1; omega)
      replace B5 := hca.blkS B5 (by unfold at1; omega)
      replace B2 := hba
      clear hba
      replace s := s.put hca (fun i hi => by have h1 : i = w.heap.size := hi; omega)
      clear hca
      have cB := blk3 B5
      refine blkStep (fun K HK => ?_)
      simp only [pick, List.filterMap_cons, List.filterMap_nil, List.getElem?_toArray, List.getElem?_cons_zero, List.getElem?_cons_succ]
      go_wp2_with fail
      refine HK.out _ _ ?_
      clear HK K
      clear cB
      obtain ⟨wpb, hwb, hbb, hcb⟩ := three_set B3 (.int .i64 b.ts) (.int .i64 b.beta) (.slice o_b b.hops.length c_b)
      have HWb := Lib.hid hwb
      clear hwb
      have ff0 := fr_of B3 0
      have ff1 := fr_of B3 1
      have ff2 := fr_of B3 2
      have cb_B2 := blk2 B2
      have cb_B3 := blk3 B3
      have cb_B4 := blk2 B4
      have cb_B5 := blk3 B5
      refine badStep (by kernel_rfl) (fun K HK => ?_)
      simp only [pick, List.filterMap_cons, List.filterMap_nil, List.getElem?_toArray, List.getElem?_cons_zero, List.getElem?_cons_succ]
      go_wp2_with fail
      refine HK.out _ _ ?_
      clear HK K
      rw [← HWb.out]
      clear HWb ff0 ff1 ff2 cb_B2 cb_B3 cb_B4 cb_B5
      replace RA := RA.chg hcb (fun k hk e => RA.ne B3 (by decide) (by rw [hk]; exact congrArg some e))
      replace RL := RL.chg hcb (fun k hk e => RL.ne B3 (by decide) (by rw [hk]; exact congrArg some e))
      replace RB := RB.chg hcb (fun k hk e => RB.ne B3 (by decide) (by rw [hk]; exact congrArg some e))
      replace B2 := hcb.blkS B2 (by unfold at1; omega)
      replace B4 := hcb.blkS B4 (by unfold at1; omega)
      replace B5 := hcb.blkS B5 (by unfold at1; omega)
      replace B3 := hbb
      clear hbb
      replace s := s.put hcb (fun i hi => by have h1 : i = (w.heap.size + 1) := hi; omega)
      clear hcb
      refine doneStep (by kernel_rfl) ?_
      have cB := blk2 B2
      have cC := blk3 B3
      go_wp2_with fail
      refine bodyPost_ret (v := .tuple #[.agg #[.slice o1 t.ases.length c1, .slice o2 t.links.length c2], .agg #[.int .i64 b.ts, .int .i64 b.beta, .slice o_b b.hops.length c_b]]) (by simp [results, Try.results111, go_sem, cB, cC]) rfl ?_
      exact ⟨_, _, _, t, b, rfl, TK, by omega, RA, RL, RB, s.c, s.x⟩

set_option maxRecDepth 100000 in
set_option maxHeartbeats 20000000 in
theorem s_DrawTwoSegs (code : List Int) (cv : Value) (w : World) (hr : RdS Rep.byte w cv code) (hu : ∀ x ∈ code, U8 x) (hl : code.length ≤ 1048576) :
    Calls Try.prog 35 #[cv] w fun e w' => ∃ (v1 v2 va vb : Value) (t : Topo) (ka kb : Int) (a b : Seg), e = .returned (.tuple #[.agg #[v1, v2], .agg #[.int .i64 a.ts, .int .i64 a.beta, va], .agg #[.int .i64 b.ts, .int .i64 b.beta, vb]]) ∧ TopoOk t ∧ SegDrawn t ka a ∧ SegDrawn t kb b ∧ OwnF ASd.f 3 w.heap.size 136 w' v1 t.ases ∧ OwnF Lnk.f 5 w.heap.size 174 w' v2 t.links ∧ OwnF Hop.f 5 w.heap.size 73 w' va a.hops ∧ OwnF Hop.f 5 w.heap.size 73 w' vb b.hops ∧ Ext w w' := by
  have hx0 := ext3 w (.cells #[.slice none 0 0, .slice none 0 0] 59) (.cells #[.int .i64 0, .int .i64 0, .slice none 0 0] 62) (.cells #[.int .i64 0, .int .i64 0, .slice none 0 0] 62)
  have HB := al3 w (.cells #[.slice none 0 0, .slice none 0 0] 59) (.cells #[.int .i64 0, .int .i64 0, .slice none 0 0] 62) (.cells #[.int .i64 0, .int .i64 0, .slice none 0 0] 62)
  go_enter Try.func35, Try.ntmps35
  go_wp2_with fail
  refine (s_l1New code _ _ (hr.ext hx0) hu hl).mono ?_
  rintro e w1 ⟨g, rfl, hgl, hc1, hn1⟩
  have hgw := hc1.lt
  have s : DSt g cv code w1 w1 := ⟨hc1, Chg.refl _ _, hc1⟩
  have B2 := Ext.block hn1 HB.1
  have B3 := Ext.block hn1 HB.2.1
  have B4 := Ext.block hn1 HB.2.2
  have hg3 : w.heap.size + 1 + 1 < g := by simp at hgl; omega
  clear HB hc1
  have cb_B2 := blk2 B2
  have cb_B3 := blk3 B3
  have cb_B4 := blk3 B4
  go_wp2_with fail
  clear cb_B2 cb_B3 cb_B4
  have hbs := s.x.size
  refine (s_l9Draw g _ _ _ s.c).mono ?_
  rintro e w2 ⟨v1, v2, va, t, kd, a, rfl, TK, SD, RA, RL, RH, hcq, hzq⟩
  replace RA := RA.mono hbs
  replace RL := RL.mono hbs
  replace RH := RH.mono hbs
  replace B2 := hzq.blkS B2 (by unfold at1; omega)
  replace B3 := hzq.blkS B3 (by unfold at1; omega)
  replace B4 := hzq.blkS B4 (by unfold at1; omega)
  replace s := s.draw hcq hzq
  clear hcq hzq hbs
  obtain ⟨o1, c1, rfl, _⟩ := (OwnF.rd (hf := ASd.flen) RA).shape
  obtain ⟨o2, c2, rfl, _⟩ := (OwnF.rd (hf := Lnk.flen) RL).shape
  obtain ⟨o_a, c_a, rfl, _⟩ := (OwnF.rd (hf := Hop.flen) RH).shape
  have cb_B2 := blk2 B2
  have cb_B3 := blk3 B3
  have cb_B4 := blk3 B4
  go_upto_region 4 with (fail)
  clear cb_B2 cb_B3 cb_B4
  have hxa := ext2 w2 (.cells #[.slice o1 t.ases.length c1, .slice o2 t.links.length c2] 59) (.cells #[.int .i64 a.ts, .int .i64 a.beta, .slice o_a a.hops.length c_a] 62)
  have BB := al2 w2 (.cells #[.slice o1 t.ases.length c1, .slice o2 t.links.length c2] 59) (.cells #[.int .i64 a.ts, .int .i64 a.beta, .slice o_a a.hops.length c_a] 62)
  have ltw_B6 : w1.heap.size ≤ w2.heap.size := s.x.size
  have lt_B2_B6 : w.heap.size < w2.heap.size := blk_lt B2
  have lt_B3_B6 : (w.heap.size + 1) < w2.heap.size := blk_lt B3
  have lt_B4_B6 : (w.heap.size + 1 + 1) < w2.heap.size := blk_lt B4
  replace B2 := Ext.block hxa B2
  replace B3 := Ext.block hxa B3
  replace B4 := Ext.block hxa B4
  replace RA := RA.ext hxa
  replace RL := RL.ext hxa
  replace RH := RH.ext hxa
  replace s := s.ext hxa
  have B6 := BB.1
  have B7 := BB.2
  obtain ⟨b6, eb6⟩ : ∃ b, b = w2.heap.size := ⟨_, rfl⟩
  rw [← eb6] at B6 B7 ltw_B6 lt_B2_B6 lt_B3_B6 lt_B4_B6 ⊢
  clear hxa BB
  generalize ((w2.alloc (.cells #[.slice o1 t.ases.length c1, .slice o2 t.links.length c2] 59)).alloc (.cells #[.int .i64 a.ts, .int .i64 a.beta, .slice o_a a.hops.length c_a] 62)) = wa at B2 B3 B4 B6 B7 RA RL RH s ⊢
  clear eb6
  have cb_B2 := blk2 B2
  have cb_B3 := blk3 B3
  have cb_B4 := blk3 B4
  have cb_B6 := blk2 B6
  have cb_B7 := blk3 B7
  go_wp2_with fail
  clear cb_B2 cb_B3 cb_B4 cb_B6 cb_B7
  have hbs := s.x.size
  refine (s_l1Once g (3) _ _ _ s.c).mono ?_
  rintro e w3 ⟨x, rfl, hcq, hzq⟩
  replace B2 := hzq.blkS B2 (by unfold at1; omega)
  replace B3 := hzq.blkS B3 (by unfold at1; omega)
  replace B4 := hzq.blkS B4 (by unfold at1; omega)
  replace B6 := hzq.blkS B6 (by unfold at1; omega)
  replace B7 := hzq.blkS B7 (by unfold at1; omega)
  replace RA := RA.at1 hzq hgw
  replace RL := RL.at1 hzq hgw
  replace RH := RH.at1 hzq hgw
  replace s := s.draw hcq hzq
  clear hcq hzq hbs
  cases x
  case false =>
    have cb_B2 := blk2 B2
    have cb_B3 := blk3 B3
    have cb_B4 := blk3 B4
    have cb_B6 := blk2 B6
    have cb_B7 := blk3 B7
    go_upto_region 6 with (fail)
    clear cb_B2 cb_B3 cb_B4 cb_B6 cb_B7
    replace B2 := Ext.block ((Ext.refl w3).drew) B2
    replace B3 := Ext.block ((Ext.refl w3).drew) B3
    replace B4 := Ext.block ((Ext.refl w3).drew) B4
    replace B6 := Ext.block ((Ext.refl w3).drew) B6
    replace B7 := Ext.block ((Ext.refl w3).drew) B7
    replace RA := RA.ext ((Ext.refl w3).drew)
    replace RL := RL.ext ((Ext.refl w3).drew)
    replace RH := RH.ext ((Ext.refl w3).drew)
    replace s := s.ext ((Ext.refl w3).drew)
    refine planStep (.blk [2, 3, 4] (.tri 0 1 5 (.two 1 5 (.one 5 (.one 6 (.one 7 (.one 8 .done)))) (.two 1 6 (.one 6 (.one 7 (.one 8 .done))) (.blk [1] (.one 7 (.one 8 .done))))) (.two 0 5 (.one 5 (.one 6 (.one 7 (.one 8 .done)))) (.blk [0] (.one 6 (.one 7 (.one 8 .done))))) (.blk [0] (.two 1 6 (.one 6 (.one 7 (.one 8 .done))) (.blk [1] (.one 7 (.one 8 .done))))))) [5, 6, 7, 8] (by kernel_rfl) (by kernel_rfl) ?_
    generalize w3.drew = wdd at B2 B3 B4 B6 B7 RA RL RH s ⊢
    have cB := blk2 B6
    refine blkStep (fun K HK => ?_)
    simp only [pick, List.filterMap_cons, List.filterMap_nil, List.getElem?_toArray, List.getElem?_cons_zero, List.getElem?_cons_succ]
    go_wp2_with fail
    refine HK.out _ _ ?_
    clear HK K
    clear cB
    refine triStep ?_ ?_ ?_
    · have cB := blk2 B6
      refine oneStep (fun K HK => ?_)
      simp only [pick, List.filterMap_cons, List.filterMap_nil, List.getElem?_toArray, List.getElem?_cons_zero]
      go_wp2_with fail
      refine HK.out _ _ (Ext.refl _) ?_
      clear HK K cB
      refine twoStep ?_ ?_
      · have cB := blk3 B7
        refine oneStep (fun K HK => ?_)
        simp only [pick, List.filterMap_cons, List.filterMap_nil, List.getElem?_toArray, List.getElem?_cons_zero, List.getElem?_cons_succ]
        go_wp2_with fail
        refine HK.out _ _ (Ext.refl _) ?_
        clear HK K cB
        refine badStep (by kernel_rfl) (fun K HK => ?_)
        simp only [pick, List.filterMap_cons, List.filterMap_nil, List.getElem?_toArray, List.getElem?_cons_zero, List.getElem?_cons_succ]
        go_wp2_with fail
        have hbs := s.x.size
        refine (s_l9Grow g t (.slice o1 t.ases.length c1) (.slice o2 t.links.length c2) 2 _ _ _ s.c TK (St.ofF RA hgw) (St.ofF RL hgw)).mono ?_
        rintro e w4 ⟨vb, b, rfl, SE, RB, hcq, hzq⟩
        replace RB := RB.mono hbs
        replace B2 := hzq.blkS B2 (by unfold at1; omega)
        replace B3 := hzq.blkS B3 (by unfold at1; omega)
        replace B4 := hzq.blkS B4 (by unfold at1; omega)
        replace B6 := hzq.blkS B6 (by unfold at1; omega)
        replace B7 := hzq.blkS B7 (by unfold at1; omega)
        replace RA := RA.at1 hzq hgw
        replace RL := RL.at1 hzq hgw
        replace RH := RH.at1 hzq hgw
        replace s := s.draw hcq hzq
        clear hcq hzq hbs
        obtain ⟨o_b, c_b, rfl, _⟩ := (OwnF.rd (hf := Hop.flen) RB).shape
        go_wp2_with fail
        refine HK.out _ _ ?_
        clear HK K
        have hxe := hx0.trans (hn1.ofCur s.x hgl)
        obtain ⟨wpa, hwa, hba, hca⟩ := two_set B2 (.slice o1 t.ases.length c1) (.slice o2 t.links.length c2)
        have HWa := Lib.hid hwa
        clear hwa
        have ff0 := fr_of B2 0
        have ff1 := fr_of B2 1
        have cb_B2 := blk2 B2
        have cb_B3 := blk3 B3
        have cb_B4 := blk3 B4
        have cb_B6 := blk2 B6
        have cb_B7 := blk3 B7
        refine badStep (by kernel_rfl) (fun K HK => ?_)
        simp only [pick, List.filterMap_cons, List.filterMap_nil, List.getElem?_toArray, List.getElem?_cons_zero, List.getElem?_cons_succ]
        go_wp2_with fail
        refine HK.out _ _ ?_
        clear HK K
        rw [← HWa.out]
        clear HWa ff0 ff1 cb_B2 cb_B3 cb_B4 cb_B6 cb_B7
        replace RA := RA.chg hca (fun k hk e => RA.ne B2 (by decide) (by rw [hk]; exact congrArg some e))
        replace RL := RL.chg hca (fun k hk e => RL.ne B2 (by decide) (by rw [hk]; exact congrArg some e))
        replace RH := RH.chg hca (fun k hk e => RH.ne B2 (by decide) (by rw [hk]; exact congrArg some e))
        replace RB := RB.chg hca (fun k hk e => RB.ne B2 (by decide) (by rw [hk]; exact congrArg some e))
        replace B3 := hca.blkS B3 (by unfold at1; omega)
        replace B4 := hca.blkS B4 (by unfold at1; omega)
        replace B6 := hca.blkS B6 (by unfold at1; omega)
        replace B7 := hca.blkS B7 (by unfold at1; omega)
        replace B2 := hba
        clear hba
        replace hxe := hxe.chg hca (fun i hi => by have h1 : i = w.heap.size := hi; omega)
        clear hca
        obtain ⟨wpb, hwb, hbb, hcb⟩ := three_set B3 (.int .i64 a.ts) (.int .i64 a.beta) (.slice o_a a.hops.length c_a)
        have HWb := Lib.hid hwb
        clear hwb
        have ff0 := fr_of B3 0
        have ff1 := fr_of B3 1
        have ff2 := fr_of B3 2
        have cb_B2 := blk2 B2
        have cb_B3 := blk3 B3
        have cb_B4 := blk3 B4
        have cb_B6 := blk2 B6
        have cb_B7 := blk3 B7
        refine badStep (by kernel_rfl) (fun K HK => ?_)
        simp only [pick, List.filterMap_cons, List.filterMap_nil, List.getElem?_toArray, List.getElem?_cons_zero, List.getElem?_cons_succ]
        go_wp2_with fail
        refine HK.out _ _ ?_
        clear HK K
        rw [← HWb.out]
        clear HWb ff0 ff1 ff2 cb_B2 cb_B3 cb_B4 cb_B6 cb_B7
        replace RA := RA.chg hcb (fun k hk e => RA.ne B3 (by decide) (by rw [hk]; exact congrArg some e))
        replace RL := RL.chg hcb (fun k hk e => RL.ne B3 (by decide) (by rw [hk]; exact congrArg some e))
        replace RH := RH.chg hcb (fun k hk e => RH.ne B3 (by decide) (by rw [hk]; exact congrArg some e))
        replace RB := RB.chg hcb (fun k hk e => RB.ne B3 (by decide) (by rw [hk]; exact congrArg some e))
        replace B2 := hcb.blkS B2 (by unfold at1; omega)
        replace B4 := hcb.blkS B4 (by unfold at1; omega)
        replace B6 := hcb.blkS B6 (by unfold at1; omega)
        replace B7 := hcb.blkS B7 (by unfold at1; omega)
        replace B3 := hbb
        clear hbb
        replace hxe := hxe.chg hcb (fun i hi => by have h1 : i = (w.heap.size + 1) := hi; omega)
        clear hcb
        obtain ⟨wpc, hwc, hbc, hcc⟩ := three_set B4 (.int .i64 b.ts) (.int .i64 b.beta) (.slice o_b b.hops.length c_b)
        have HWc := Lib.hid hwc
        clear hwc
        have ff0 := fr_of B4 0
        have ff1 := fr_of B4 1
        have ff2 := fr_of B4 2
        have cb_B2 := blk2 B2
        have cb_B3 := blk3 B3
        have cb_B4 := blk3 B4
        have cb_B6 := blk2 B6
        have cb_B7 := blk3 B7
        refine badStep (by kernel_rfl) (fun K HK => ?_)
        simp only [pick, List.filterMap_cons, List.filterMap_nil, List.getElem?_toArray, List.getElem?_cons_zero, List.getElem?_cons_succ]
        go_wp2_with fail
        refine HK.out _ _ ?_
        clear HK K
        rw [← HWc.out]
        clear HWc ff0 ff1 ff2 cb_B2 cb_B3 cb_B4 cb_B6 cb_B7
        replace RA := RA.chg hcc (fun k hk e => RA.ne B4 (by decide) (by rw [hk]; exact congrArg some e))
        replace RL := RL.chg hcc (fun k hk e => RL.ne B4 (by decide) (by rw [hk]; exact congrArg some e))
        replace RH := RH.chg hcc (fun k hk e => RH.ne B4 (by decide) (by rw [hk]; exact congrArg some e))
        replace RB := RB.chg hcc (fun k hk e => RB.ne B4 (by decide) (by rw [hk]; exact congrArg some e))
        replace B2 := hcc.blkS B2 (by unfold at1; omega)
        replace B3 := hcc.blkS B3 (by unfold at1; omega)
        replace B6 := hcc.blkS B6 (by unfold at1; omega)
        replace B7 := hcc.blkS B7 (by unfold at1; omega)
        replace B4 := hbc
        clear hbc
        replace hxe := hxe.chg hcc (fun i hi => by have h1 : i = (w.heap.size + 1 + 1) := hi; omega)
        clear hcc
        refine doneStep (by kernel_rfl) ?_
        have cB := blk2 B2
        have cC := blk3 B3
        have cD := blk3 B4
        have hwb := (hx0.trans hn1).size
        go_wp2_with fail
        refine bodyPost_ret (v := .tuple #[.agg #[.slice o1 t.ases.length c1, .slice o2 t.links.length c2], .agg #[.int .i64 a.ts, .int .i64 a.beta, .slice o_a a.hops.length c_a], .agg #[.int .i64 b.ts, .int .i64 b.beta, .slice o_b b.hops.length c_b]]) (by simp [results, Try.results35, go_sem, cB, cC, cD]) rfl ?_
        exact ⟨_, _, _, _, t, kd, 2, a, b, rfl, TK, SD, SE, RA.mono hwb, RL.mono hwb, RH.mono hwb, RB.mono hwb, hxe⟩
      · refine badStep (by kernel_rfl) (fun K HK => ?_)
        simp only [pick, List.filterMap_cons, List.filterMap_nil, List.getElem?_toArray, List.getElem?_cons_zero, List.getElem?_cons_succ]
        go_wp2_with fail
        have hbs := s.x.size
        refine (s_l9Grow g t (.slice o1 t.ases.length c1) (.slice o2 t.links.length c2) 2 _ _ _ s.c TK (St.ofF RA hgw) (St.ofF RL hgw)).mono ?_
        rintro e w5 ⟨vb, b, rfl, SE, RB, hcq, hzq⟩
        replace RB := RB.mono hbs
        replace B2 := hzq.blkS B2 (by unfold at1; omega)
        replace B3 := hzq.blkS B3 (by unfold at1; omega)
        replace B4 := hzq.blkS B4 (by unfold at1; omega)
        replace B6 := hzq.blkS B6 (by unfold at1; omega)
        replace B7 := hzq.blkS B7 (by unfold at1; omega)
        replace RA := RA.at1 hzq hgw
        replace RL := RL.at1 hzq hgw
        replace RH := RH.at1 hzq hgw
        replace s := s.draw hcq hzq
        clear hcq hzq hbs
        obtain ⟨o_b, c_b, rfl, _⟩ := (OwnF.rd (hf := Hop.flen) RB).shape
        go_wp2_with fail
        refine HK.out _ _ ?_
        clear HK K
        refine twoStep ?_ ?_
        · have cB := blk3 B7
          refine oneStep (fun K HK => ?_)
          simp only [pick, List.filterMap_cons, List.filterMap_nil, List.getElem?_toArray, List.getElem?_cons_zero, List.getElem?_cons_succ]
          go_wp2_with fail
          refine HK.out _ _ (Ext.refl _) ?_
          clear HK K cB
          have hxe := hx0.trans (hn1.ofCur s.x hgl)
          obtain ⟨wpa, hwa, hba, hca⟩ := two_set B2 (.slice o1 t.ases.length c1) (.slice o2 t.links.length c2)
          have HWa := Lib.hid hwa
          clear hwa
          have ff0 := fr_of B2 0
          have ff1 := fr_of B2 1
          have cb_B2 := blk2 B2
          have cb_B3 := blk3 B3
          have cb_B4 := blk3 B4
          have cb_B6 := blk2 B6
          have cb_B7 := blk3 B7
          refine badStep (by kernel_rfl) (fun K HK => ?_)
          simp only [pick, List.filterMap_cons, List.filterMap_nil, List.getElem?_toArray, List.getElem?_cons_zero, List.getElem?_cons_succ]
          go_wp2_with fail
          refine HK.out _ _ ?_
          clear HK K
          rw [← HWa.out]
          clear HWa ff0 ff1 cb_B2 cb_B3 cb_B4 cb_B6 cb_B7
          replace RA := RA.chg hca (fun k hk e => RA.ne B2 (by decide) (by rw [hk]; exact congrArg some e))
          replace RL := RL.chg hca (fun k hk e => RL.ne B2 (by decide) (by rw [hk]; exact congrArg some e))
          replace RH := RH.chg hca (fun k hk e => RH.ne B2 (by decide) (by rw [hk]; exact congrArg some e))
          replace RB := RB.chg hca (fun k hk e => RB.ne B2 (by decide) (by rw [hk]; exact congrArg some e))
          replace B3 := hca.blkS B3 (by unfold at1; omega)
          replace B4 := hca.blkS B4 (by unfold at1; omega)
          replace B6 := hca.blkS B6 (by unfold at1; omega)
          replace B7 := hca.blkS B7 (by unfold at1; omega)
          replace B2 := hba
          clear hba
          replace hxe := hxe.chg hca (fun i hi => by have h1 : i = w.heap.size := hi; omega)
          clear hca
          obtain ⟨wpb, hwb, hbb, hcb⟩ := three_set B3 (.int .i64 a.ts) (.int .i64 a.beta) (.slice o_a a.hops.length c_a)
          have HWb := Lib.hid hwb
          clear hwb
          have ff0 := fr_of B3 0
          have ff1 := fr_of B3 1
          have ff2 := fr_of B3 2
          have cb_B2 := blk2 B2
          have cb_B3 := blk3 B3
          have cb_B4 := blk3 B4
          have cb_B6 := blk2 B6
          have cb_B7 := blk3 B7
          refine badStep (by kernel_rfl) (fun K HK => ?_)
          simp only [pick, List.filterMap_cons, List.filterMap_nil, List.getElem?_toArray, List.getElem?_cons_zero, List.getElem?_cons_succ]
          go_wp2_with fail
          refine HK.out _ _ ?_
          clear HK K
          rw [← HWb.out]
          clear HWb ff0 ff1 ff2 cb_B2 cb_B3 cb_B4 cb_B6 cb_B7
          replace RA := RA.chg hcb (fun k hk e => RA.ne B3 (by decide) (by rw [hk]; exact congrArg some e))
          replace RL := RL.chg hcb (fun k hk e => RL.ne B3 (by decide) (by rw [hk]; exact congrArg some e))
          replace RH := RH.chg hcb (fun k hk e => RH.ne B3 (by decide) (by rw [hk]; exact congrArg some e))
          replace RB := RB.chg hcb (fun k hk e => RB.ne B3 (by decide) (by rw [hk]; exact congrArg some e))
          replace B2 := hcb.blkS B2 (by unfold at1; omega)
          replace B4 := hcb.blkS B4 (by unfold at1; omega)
          replace B6 := hcb.blkS B6 (by unfold at1; omega)
          replace B7 := hcb.blkS B7 (by unfold at1; omega)
          replace B3 := hbb
          clear hbb
          replace hxe := hxe.chg hcb (fun i hi => by have h1 : i = (w.heap.size + 1) := hi; omega)
          clear hcb
          obtain ⟨wpc, hwc, hbc, hcc⟩ := three_set B4 (.int .i64 b.ts) (.int .i64 b.beta) (.slice o_b b.hops.length c_b)
          have HWc := Lib.hid hwc
          clear hwc
          have ff0 := fr_of B4 0
          have ff1 := fr_of B4 1
          have ff2 := fr_of B4 2
          have cb_B2 := blk2 B2
          have cb_B3 := blk3 B3
          have cb_B4 := blk3 B4
          have cb_B6 := blk2 B6
          have cb_B7 := blk3 B7
          refine badStep (by kernel_rfl) (fun K HK => ?_)
          simp only [pick, List.filterMap_cons, List.filterMap_nil, List.getElem?_toArray, List.getElem?_cons_zero, List.getElem?_cons_succ]
          go_wp2_with fail
          refine HK.out _ _ ?_
          clear HK K
          rw [← HWc.out]
          clear HWc ff0 ff1 ff2 cb_B2 cb_B3 cb_B4 cb_B6 cb_B7
          replace RA := RA.chg hcc (fun k hk e => RA.ne B4 (by decide) (by rw [hk]; exact congrArg some e))
          replace RL := RL.chg hcc (fun k hk e => RL.ne B4 (by decide) (by rw [hk]; exact congrArg some e))
          replace RH := RH.chg hcc (fun k hk e => RH.ne B4 (by decide) (by rw [hk]; exact congrArg some e))
          replace RB := RB.chg hcc (fun k hk e => RB.ne B4 (by decide) (by rw [hk]; exact congrArg some e))
          replace B2 := hcc.blkS B2 (by unfold at1; omega)
          replace B3 := hcc.blkS B3 (by unfold at1; omega)
          replace B6 := hcc.blkS B6 (by unfold at1; omega)
          replace B7 := hcc.blkS B7 (by unfold at1; omega)
          replace B4 := hbc
          clear hbc
          replace hxe := hxe.chg hcc (fun i hi => by have h1 : i = (w.heap.size + 1 + 1) := hi; omega)
          clear hcc
          refine doneStep (by kernel_rfl) ?_
          have cB := blk2 B2
          have cC := blk3 B3
          have cD := blk3 B4
          have hwb := (hx0.trans hn1).size
          go_wp2_with fail
          refine bodyPost_ret (v := .tuple #[.agg #[.slice o1 t.ases.length c1, .slice o2 t.links.length c2], .agg #[.int .i64 a.ts, .int .i64 a.beta, .slice o_a a.hops.length c_a], .agg #[.int .i64 b.ts, .int .i64 b.beta, .slice o_b b.hops.length c_b]]) (by simp [results, Try.results35, go_sem, cB, cC, cD]) rfl ?_
          exact ⟨_, _, _, _, t, kd, 2, a, b, rfl, TK, SD, SE, RA.mono hwb, RL.mono hwb, RH.mono hwb, RB.mono hwb, hxe⟩
        · have hxe := hx0.trans (hn1.ofCur s.x hgl)
          obtain ⟨wpa, hwa, hba, hca⟩ := two_set B2 (.slice o1 t.ases.length c1) (.slice o2 t.links.length c2)
          have HWa := Lib.hid hwa
          clear hwa
          have ff0 := fr_of B2 0
          have ff1 := fr_of B2 1
          have cb_B2 := blk2 B2
          have cb_B3 := blk3 B3
          have cb_B4 := blk3 B4
          have cb_B6 := blk2 B6
          have cb_B7 := blk3 B7
          refine badStep (by kernel_rfl) (fun K HK => ?_)
          simp only [pick, List.filterMap_cons, List.filterMap_nil, List.getElem?_toArray, List.getElem?_cons_zero, List.getElem?_cons_succ]
          go_wp2_with fail
          refine HK.out _ _ ?_
          clear HK K
          rw [← HWa.out]
          clear HWa ff0 ff1 cb_B2 cb_B3 cb_B4 cb_B6 cb_B7
          replace RA := RA.chg hca (fun k hk e => RA.ne B2 (by decide) (by rw [hk]; exact congrArg some e))
          replace RL := RL.chg hca (fun k hk e => RL.ne B2 (by decide) (by rw [hk]; exact congrArg some e))
          replace RH := RH.chg hca (fun k hk e => RH.ne B2 (by decide) (by rw [hk]; exact congrArg some e))
          replace RB := RB.chg hca (fun k hk e => RB.ne B2 (by decide) (by rw [hk]; exact congrArg some e))
          replace B3 := hca.blkS B3 (by unfold at1; omega)
          replace B4 := hca.blkS B4 (by unfold at1; omega)
          replace B6 := hca.blkS B6 (by unfold at1; omega)
          replace B7 := hca.blkS B7 (by unfold at1; omega)
          replace B2 := hba
          clear hba
          replace hxe := hxe.chg hca (fun i hi => by have h1 : i = w.heap.size := hi; omega)
          clear hca
          have cB := blk3 B7
          refine blkStep (fun K HK => ?_)
          simp only [pick, List.filterMap_cons, List.filterMap_nil, List.getElem?_toArray, List.getElem?_cons_zero, List.getElem?_cons_succ]
          go_wp2_with fail
          refine HK.out _ _ ?_
          clear HK K
          clear cB
          obtain ⟨wpb, hwb, hbb, hcb⟩ := three_set B3 (.int .i64 a.ts) (.int .i64 a.beta) (.slice o_a a.hops.length c_a)
          have HWb := Lib.hid hwb
          clear hwb
          have ff0 := fr_of B3 0
          have ff1 := fr_of B3 1
          have ff2 := fr_of B3 2
          have cb_B2 := blk2 B2
          have cb_B3 := blk3 B3
          have cb_B4 := blk3 B4
          have cb_B6 := blk2 B6
          have cb_B7 := blk3 B7
          refine badStep (by kernel_rfl) (fun K HK => ?_)
          simp only [pick, List.filterMap_cons, List.filterMap_nil, List.getElem?_toArray, List.getElem?_cons_zero, List.getElem?_cons_succ]
          go_wp2_with fail
          refine HK.out _ _ ?_
          clear HK K
          rw [← HWb.out]
          clear HWb ff0 ff1 ff2 cb_B2 cb_B3 cb_B4 cb_B6 cb_B7
          replace RA := RA.chg hcb (fun k hk e => RA.ne B3 (by decide) (by rw [hk]; exact congrArg some e))
          replace RL := RL.chg hcb (fun k hk e => RL.ne B3 (by decide) (by rw [hk]; exact congrArg some e))
          replace RH := RH.chg hcb (fun k hk e => RH.ne B3 (by decide) (by rw [hk]; exact congrArg some e))
          replace RB := RB.chg hcb (fun k hk e => RB.ne B3 (by decide) (by rw [hk]; exact congrArg some e))
          replace B2 := hcb.blkS B2 (by unfold at1; omega)
          replace B4 := hcb.blkS B4 (by unfold at1; omega)
          replace B6 := hcb.blkS B6 (by unfold at1; omega)
          replace B7 := hcb.blkS B7 (by unfold at1; omega)
          replace B3 := hbb
          clear hbb
          replace hxe := hxe.chg hcb (fun i hi => by have h1 : i = (w.heap.size + 1) := hi; omega)
          clear hcb
          obtain ⟨wpc, hwc, hbc, hcc⟩ := three_set B4 (.int .i64 b.ts) (.int .i64 b.beta) (.slice o_b b.hops.length c_b)
          have HWc := Lib.hid hwc
          clear hwc
          have ff0 := fr_of B4 0
          have ff1 := fr_of B4 1
          have ff2 := fr_of B4 2
          have cb_B2 := blk2 B2
          have cb_B3 := blk3 B3
          have cb_B4 := blk3 B4
          have cb_B6 := blk2 B6
          have cb_B7 := blk3 B7
          refine badStep (by kernel_rfl) (fun K HK => ?_)
          simp only [pick, List.filterMap_cons, List.filterMap_nil, List.getElem?_toArray, List.getElem?_cons_zero, List.getElem?_cons_succ]
          go_wp2_with fail
          refine HK.out _ _ ?_
          clear HK K
          rw [← HWc.out]
          clear HWc ff0 ff1 ff2 cb_B2 cb_B3 cb_B4 cb_B6 cb_B7
          replace RA := RA.chg hcc (fun k hk e => RA.ne B4 (by decide) (by rw [hk]; exact congrArg some e))
          replace RL := RL.chg hcc (fun k hk e => RL.ne B4 (by decide) (by rw [hk]; exact congrArg some e))
          replace RH := RH.chg hcc (fun k hk e => RH.ne B4 (by decide) (by rw [hk]; exact congrArg some e))
          replace RB := RB.chg hcc (fun k hk e => RB.ne B4 (by decide) (by rw [hk]; exact congrArg some e))
          replace B2 := hcc.blkS B2 (by unfold at1; omega)
          replace B3 := hcc.blkS B3 (by unfold at1; omega)
          replace B6 := hcc.blkS B6 (by unfold at1; omega)
          replace B7 := hcc.blkS B7 (by unfold at1; omega)
          replace B4 := hbc
          clear hbc
          replace hxe := hxe.chg hcc (fun i hi => by have h1 : i = (w.heap.size + 1 + 1) := hi; omega)
          clear hcc
          refine doneStep (by kernel_rfl) ?_
          have cB := blk2 B2
          have cC := blk3 B3
          have cD := blk3 B4
          have hwb := (hx0.trans hn1).size
          go_wp2_with fail
          refine bodyPost_ret (v := .tuple #[.agg #[.slice o1 t.ases.length c1, .slice o2 t.links.length c2], .agg #[.int .i64 a.ts, .int .i64 a.beta, .slice o_a a.hops.length c_a], .agg #[.int .i64 b.ts, .int .i64 b.beta, .slice o_b b.hops.length c_b]]) (by simp [results, Try.results35, go_sem, cB, cC, cD]) rfl ?_
          exact ⟨_, _, _, _, t, kd, 2, a, b, rfl, TK, SD, SE, RA.mono hwb, RL.mono hwb, RH.mono hwb, RB.mono hwb, hxe⟩
    · have cB := blk3 B7
      refine oneStep (fun K HK => ?_)
      simp only [pick, List.filterMap_cons, List.filterMap_nil, List.getElem?_toArray, List.getElem?_cons_zero, List.getElem?_cons_succ]
      go_wp2_with fail
      refine HK.out _ _ (Ext.refl _) ?_
      clear HK K cB
      refine twoStep ?_ ?_
      · have cB := blk2 B6
        refine oneStep (fun K HK => ?_)
        simp only [pick, List.filterMap_cons, List.filterMap_nil, List.getElem?_toArray, List.getElem?_cons_zero]
        go_wp2_with fail
        refine HK.out _ _ (Ext.refl _) ?_
        clear HK K cB
        refine badStep (by kernel_rfl) (fun K HK => ?_)
        simp only [pick, List.filterMap_cons, List.filterMap_nil, List.getElem?_toArray, List.getElem?_cons_zero, List.getElem?_cons_succ]
        go_wp2_with fail
        have hbs := s.x.size
        refine (s_l9Grow g t (.slice o1 t.ases.length c1) (.slice o2 t.links.length c2) 2 _ _ _ s.c TK (St.ofF RA hgw) (St.ofF RL hgw)).mono ?_
        rintro e w6 ⟨vb, b, rfl, SE, RB, hcq, hzq⟩
        replace RB := RB.mono hbs
        replace B2 := hzq.blkS B2 (by unfold at1; omega)
        replace B3 := hzq.blkS B3 (by unfold at1; omega)
        replace B4 := hzq.blkS B4 (by unfold at1; omega)
        replace B6 := hzq.blkS B6 (by unfold at1; omega)
        replace B7 := hzq.blkS B7 (by unfold at1; omega)
        replace RA := RA.at1 hzq hgw
        replace RL := RL.at1 hzq hgw
        replace RH := RH.at1 hzq hgw
        replace s := s.draw hcq hzq
        clear hcq hzq hbs
        obtain ⟨o_b, c_b, rfl, _⟩ := (OwnF.rd (hf := Hop.flen) RB).shape
        go_wp2_with fail
        refine HK.out _ _ ?_
        clear HK K
        have hxe := hx0.trans (hn1.ofCur s.x hgl)
        obtain ⟨wpa, hwa, hba, hca⟩ := two_set B2 (.slice o1 t.ases.length c1) (.slice o2 t.links.length c2)
        have HWa := Lib.hid hwa
        clear hwa
        have ff0 := fr_of B2 0
        have ff1 := fr_of B2 1
        have cb_B2 := blk2 B2
        have cb_B3 := blk3 B3
        have cb_B4 := blk3 B4
        have cb_B6 := blk2 B6
        have cb_B7 := blk3 B7
        refine badStep (by kernel_rfl) (fun K HK => ?_)
        simp only [pick, List.filterMap_cons, List.filterMap_nil, List.getElem?_toArray, List.getElem?_cons_zero, List.getElem?_cons_succ]
        go_wp2_with fail
        refine HK.out _ _ ?_
        clear HK K
        rw [← HWa.out]
        clear HWa ff0 ff1 cb_B2 cb_B3 cb_B4 cb_B6 cb_B7
        replace RA := RA.chg hca (fun k hk e => RA.ne B2 (by decide) (by rw [hk]; exact congrArg some e))
        replace RL := RL.chg hca (fun k hk e => RL.ne B2 (by decide) (by rw [hk]; exact congrArg some e))
        replace RH := RH.chg hca (fun k hk e => RH.ne B2 (by decide) (by rw [hk]; exact congrArg some e))
        replace RB := RB.chg hca (fun k hk e => RB.ne B2 (by decide) (by rw [hk]; exact congrArg some e))
        replace B3 := hca.blkS B3 (by unfold at1; omega)
        replace B4 := hca.blkS B4 (by unfold at1; omega)
        replace B6 := hca.blkS B6 (by unfold at1; omega)
        replace B7 := hca.blkS B7 (by unfold at1; omega)
        replace B2 := hba
        clear hba
        replace hxe := hxe.chg hca (fun i hi => by have h1 : i = w.heap.size := hi; omega)
        clear hca
        obtain ⟨wpb, hwb, hbb, hcb⟩ := three_set B3 (.int .i64 a.ts) (.int .i64 a.beta) (.slice o_a a.hops.length c_a)
        have HWb := Lib.hid hwb
        clear hwb
        have ff0 := fr_of B3 0
        have ff1 := fr_of B3 1
        have ff2 := fr_of B3 2
        have cb_B2 := blk2 B2
        have cb_B3 := blk3 B3
        have cb_B4 := blk3 B4
        have cb_B6 := blk2 B6
        have cb_B7 := blk3 B7
        refine badStep (by kernel_rfl) (fun K HK => ?_)
        simp only [pick, List.filterMap_cons, List.filterMap_nil, List.getElem?_toArray, List.getElem?_cons_zero, List.getElem?_cons_succ]
        go_wp2_with fail
        refine HK.out _ _ ?_
        clear HK K
        rw [← HWb.out]
        clear HWb ff0 ff1 ff2 cb_B2 cb_B3 cb_B4 cb_B6 cb_B7
        replace RA := RA.chg hcb (fun k hk e => RA.ne B3 (by decide) (by rw [hk]; exact congrArg some e))
        replace RL := RL.chg hcb (fun k hk e => RL.ne B3 (by decide) (by rw [hk]; exact congrArg some e))
        replace RH := RH.chg hcb (fun k hk e => RH.ne B3 (by decide) (by rw [hk]; exact congrArg some e))
        replace RB := RB.chg hcb (fun k hk e => RB.ne B3 (by decide) (by rw [hk]; exact congrArg some e))
        replace B2 := hcb.blkS B2 (by unfold at1; omega)
        replace B4 := hcb.blkS B4 (by unfold at1; omega)
        replace B6 := hcb.blkS B6 (by unfold at1; omega)
        replace B7 := hcb.blkS B7 (by unfold at1; omega)
        replace B3 := hbb
        clear hbb
        replace hxe := hxe.chg hcb (fun i hi => by have h1 : i = (w.heap.size + 1) := hi; omega)
        clear hcb
        obtain ⟨wpc, hwc, hbc, hcc⟩ := three_set B4 (.int .i64 b.ts) (.int .i64 b.beta) (.slice o_b b.hops.length c_b)
        have HWc := Lib.hid hwc
        clear hwc
        have ff0 := fr_of B4 0
        have ff1 := fr_of B4 1
        have ff2 := fr_of B4 2
        have cb_B2 := blk2 B2
        have cb_B3 := blk3 B3
        have cb_B4 := blk3 B4
        have cb_B6 := blk2 B6
        have cb_B7 := blk3 B7
        refine badStep (by kernel_rfl) (fun K HK => ?_)
        simp only [pick, List.filterMap_cons, List.filterMap_nil, List.getElem?_toArray, List.getElem?_cons_zero, List.getElem?_cons_succ]
        go_wp2_with fail
        refine HK.out _ _ ?_
        clear HK K
        rw [← HWc.out]
        clear HWc ff0 ff1 ff2 cb_B2 cb_B3 cb_B4 cb_B6 cb_B7
        replace RA := RA.chg hcc (fun k hk e => RA.ne B4 (by decide) (by rw [hk]; exact congrArg some e))
        replace RL := RL.chg hcc (fun k hk e => RL.ne B4 (by decide) (by rw [hk]; exact congrArg some e))
        replace RH := RH.chg hcc (fun k hk e => RH.ne B4 (by decide) (by rw [hk]; exact congrArg some e))
        replace RB := RB.chg hcc (fun k hk e => RB.ne B4 (by decide) (by rw [hk]; exact congrArg some e))
        replace B2 := hcc.blkS B2 (by unfold at1; omega)
        replace B3 := hcc.blkS B3 (by unfold at1; omega)
        replace B6 := hcc.blkS B6 (by unfold at1; omega)
        replace B7 := hcc.blkS B7 (by unfold at1; omega)
        replace B4 := hbc
        clear hbc
        replace hxe := hxe.chg hcc (fun i hi => by have h1 : i = (w.heap.size + 1 + 1) := hi; omega)
        clear hcc
        refine doneStep (by kernel_rfl) ?_
        have cB := blk2 B2
        have cC := blk3 B3
        have cD := blk3 B4
        have hwb := (hx0.trans hn1).size
        go_wp2_with fail
        refine bodyPost_ret (v := .tuple #[.agg #[.slice o1 t.ases.length c1, .slice o2 t.links.length c2], .agg #[.int .i64 a.ts, .int .i64 a.beta, .slice o_a a.hops.length c_a], .agg #[.int .i64 b.ts, .int .i64 b.beta, .slice o_b b.hops.length c_b]]) (by simp [results, Try.results35, go_sem, cB, cC, cD]) rfl ?_
        exact ⟨_, _, _, _, t, kd, 2, a, b, rfl, TK, SD, SE, RA.mono hwb, RL.mono hwb, RH.mono hwb, RB.mono hwb, hxe⟩
      · refine badStep (by kernel_rfl) (fun K HK => ?_)
        simp only [pick, List.filterMap_cons, List.filterMap_nil, List.getElem?_toArray, List.getElem?_cons_zero, List.getElem?_cons_succ]
        go_wp2_with fail
        have hbs := s.x.size
        refine (s_l9Grow g t (.slice o1 t.ases.length c1) (.slice o2 t.links.length c2) 2 _ _ _ s.c TK (St.ofF RA hgw) (St.ofF RL hgw)).mono ?_
        rintro e w7 ⟨vb, b, rfl, SE, RB, hcq, hzq⟩
        replace RB := RB.mono hbs
        replace B2 := hzq.blkS B2 (by unfold at1; omega)
        replace B3 := hzq.blkS B3 (by unfold at1; omega)
        replace B4 := hzq.blkS B4 (by unfold at1; omega)
        replace B6 := hzq.blkS B6 (by unfold at1; omega)
        replace B7 := hzq.blkS B7 (by unfold at1; omega)
        replace RA := RA.at1 hzq hgw
        replace RL := RL.at1 hzq hgw
        replace RH := RH.at1 hzq hgw
        replace s := s.draw hcq hzq
        clear hcq hzq hbs
        obtain ⟨o_b, c_b, rfl, _⟩ := (OwnF.rd (hf := Hop.flen) RB).shape
        go_wp2_with fail
        refine HK.out _ _ ?_
        clear HK K
        have cB := blk2 B6
        refine blkStep (fun K HK => ?_)
        simp only [pick, List.filterMap_cons, List.filterMap_nil, List.getElem?_toArray, List.getElem?_cons_zero]
        go_wp2_with fail
        refine HK.out _ _ ?_
        clear HK K
        clear cB
        have hxe := hx0.trans (hn1.ofCur s.x hgl)
        obtain ⟨wpa, hwa, hba, hca⟩ := two_set B2 (.slice o1 t.ases.length c1) (.slice o2 t.links.length c2)
        have HWa := Lib.hid hwa
        clear hwa
        have ff0 := fr_of B2 0
        have ff1 := fr_of B2 1
        have cb_B2 := blk2 B2
        have cb_B3 := blk3 B3
        have cb_B4 := blk3 B4
        have cb_B6 := blk2 B6
        have cb_B7 := blk3 B7
        refine badStep (by kernel_rfl) (fun K HK => ?_)
        simp only [pick, List.filterMap_cons, List.filterMap_nil, List.getElem?_toArray, List.getElem?_cons_zero, List.getElem?_cons_succ]
        go_wp2_with fail
        refine HK.out _ _ ?_
        clear HK K
        rw [← HWa.out]
        clear HWa ff0 ff1 cb_B2 cb_B3 cb_B4 cb_B6 cb_B7
        replace RA := RA.chg hca (fun k hk e => RA.ne B2 (by decide) (by rw [hk]; exact congrArg some e))
        replace RL := RL.chg hca (fun k hk e => RL.ne B2 (by decide) (by rw [hk]; exact congrArg some e))
        replace RH := RH.chg hca (fun k hk e => RH.ne B2 (by decide) (by rw [hk]; exact congrArg some e))
        replace RB := RB.chg hca (fun k hk e => RB.ne B2 (by decide) (by rw [hk]; exact congrArg some e))
        replace B3 := hca.blkS B3 (by unfold at1; omega)
        replace B4 := hca.blkS B4 (by unfold at1; omega)
        replace B6 := hca.blkS B6 (by unfold at1; omega)
        replace B7 := hca.blkS B7 (by unfold at1; omega)
        replace B2 := hba
        clear hba
        replace hxe := hxe.chg hca (fun i hi => by have h1 : i = w.heap.size := hi; omega)
        clear hca
        obtain ⟨wpb, hwb, hbb, hcb⟩ := three_set B3 (.int .i64 a.ts) (.int .i64 a.beta) (.slice o_a a.hops.length c_a)
        have HWb := Lib.hid hwb
        clear hwb
        have ff0 := fr_of B3 0
        have ff1 := fr_of B3 1
        have ff2 := fr_of B3 2
        have cb_B2 := blk2 B2
        have cb_B3 := blk3 B3
        have cb_B4 := blk3 B4
        have cb_B6 := blk2 B6
        have cb_B7 := blk3 B7
        refine badStep (by kernel_rfl) (fun K HK => ?_)
        simp only [pick, List.filterMap_cons, List.filterMap_nil, List.getElem?_toArray, List.getElem?_cons_zero, List.getElem?_cons_succ]
        go_wp2_with fail
        refine HK.out _ _ ?_
        clear HK K
        rw [← HWb.out]
        clear HWb ff0 ff1 ff2 cb_B2 cb_B3 cb_B4 cb_B6 cb_B7
        replace RA := RA.chg hcb (fun k hk e => RA.ne B3 (by decide) (by rw [hk]; exact congrArg some e))
        replace RL := RL.chg hcb (fun k hk e => RL.ne B3 (by decide) (by rw [hk]; exact congrArg some e))
        replace RH := RH.chg hcb (fun k hk e => RH.ne B3 (by decide) (by rw [hk]; exact congrArg some e))
        replace RB := RB.chg hcb (fun k hk e => RB.ne B3 (by decide) (by rw [hk]; exact congrArg some e))
        replace B2 := hcb.blkS B2 (by unfold at1; omega)
        replace B4 := hcb.blkS B4 (by unfold at1; omega)
        replace B6 := hcb.blkS B6 (by unfold at1; omega)
        replace B7 := hcb.blkS B7 (by unfold at1; omega)
        replace B3 := hbb
        clear hbb
        replace hxe := hxe.chg hcb (fun i hi => by have h1 : i = (w.heap.size + 1) := hi; omega)
        clear hcb
        obtain ⟨wpc, hwc, hbc, hcc⟩ := three_set B4 (.int .i64 b.ts) (.int .i64 b.beta) (.slice o_b b.hops.length c_b)
        have HWc := Lib.hid hwc
        clear hwc
        have ff0 := fr_of B4 0
        have ff1 := fr_of B4 1
        have ff2 := fr_of B4 2
        have cb_B2 := blk2 B2
        have cb_B3 := blk3 B3
        have cb_B4 := blk3 B4
        have cb_B6 := blk2 B6
        have cb_B7 := blk3 B7
        refine badStep (by kernel_rfl) (fun K HK => ?_)
        simp only [pick, List.filterMap_cons, List.filterMap_nil, List.getElem?_toArray, List.getElem?_cons_zero, List.getElem?_cons_succ]
        go_wp2_with fail
        refine HK.out _ _ ?_
        clear HK K
        rw [← HWc.out]
        clear HWc ff0 ff1 ff2 cb_B2 cb_B3 cb_B4 cb_B6 cb_B7
        replace RA := RA.chg hcc (fun k hk e => RA.ne B4 (by decide) (by rw [hk]; exact congrArg some e))
        replace RL := RL.chg hcc (fun k hk e => RL.ne B4 (by decide) (by rw [hk]; exact congrArg some e))
        replace RH := RH.chg hcc (fun k hk e => RH.ne B4 (by decide) (by rw [hk]; exact congrArg some e))
        replace RB := RB.chg hcc (fun k hk e => RB.ne B4 (by decide) (by rw [hk]; exact congrArg some e))
        replace B2 := hcc.blkS B2 (by unfold at1; omega)
        replace B3 := hcc.blkS B3 (by unfold at1; omega)
        replace B6 := hcc.blkS B6 (by unfold at1; omega)
        replace B7 := hcc.blkS B7 (by unfold at1; omega)
        replace B4 := hbc
        clear hbc
        replace hxe := hxe.chg hcc (fun i hi => by have h1 : i = (w.heap.size + 1 + 1) := hi; omega)
        clear hcc
        refine doneStep (by kernel_rfl) ?_
        have cB := blk2 B2
        have cC := blk3 B3
        have cD := blk3 B4
        have hwb := (hx0.trans hn1).size
        go_wp2_with fail
        refine bodyPost_ret (v := .tuple #[.agg #[.slice o1 t.ases.length c1, .slice o2 t.links.length c2], .agg #[.int .i64 a.ts, .int .i64 a.beta, .slice o_a a.hops.length c_a], .agg #[.int .i64 b.ts, .int .i64 b.beta, .slice o_b b.hops.length c_b]]) (by simp [results, Try.results35, go_sem, cB, cC, cD]) rfl ?_
        exact ⟨_, _, _, _, t, kd, 2, a, b, rfl, TK, SD, SE, RA.mono hwb, RL.mono hwb, RH.mono hwb, RB.mono hwb, hxe⟩
    · refine badStep (by kernel_rfl) (fun K HK => ?_)
      simp only [pick, List.filterMap_cons, List.filterMap_nil, List.getElem?_toArray, List.getElem?_cons_zero, List.getElem?_cons_succ]
      go_wp2_with fail
      have hbs := s.x.size
      refine (s_l9Grow g t (.slice o1 t.ases.length c1) (.slice o2 t.links.length c2) 2 _ _ _ s.c TK (St.ofF RA hgw) (St.ofF RL hgw)).mono ?_
      rintro e w8 ⟨vb, b, rfl, SE, RB, hcq, hzq⟩
      replace RB := RB.mono hbs
      replace B2 := hzq.blkS B2 (by unfold at1; omega)
      replace B3 := hzq.blkS B3 (by unfold at1; omega)
      replace B4 := hzq.blkS B4 (by unfold at1; omega)
      replace B6 := hzq.blkS B6 (by unfold at1; omega)
      replace B7 := hzq.blkS B7 (by unfold at1; omega)
      replace RA := RA.at1 hzq hgw
      replace RL := RL.at1 hzq hgw
      replace RH := RH.at1 hzq hgw
      replace s := s.draw hcq hzq
      clear hcq hzq hbs
      obtain ⟨o_b, c_b, rfl, _⟩ := (OwnF.rd (hf := Hop.flen) RB).shape
      go_wp2_with fail
      refine HK.out _ _ ?_
      clear HK K
      have cB := blk2 B6
      refine blkStep (fun K HK => ?_)
      simp only [pick, List.filterMap_cons, List.filterMap_nil, List.getElem?_toArray, List.getElem?_cons_zero]
      go_wp2_with fail
      refine HK.out _ _ ?_
      clear HK K
      clear cB
      refine twoStep ?_ ?_
      · have cB := blk3 B7
        refine oneStep (fun K HK => ?_)
        simp only [pick, List.filterMap_cons, List.filterMap_nil, List.getElem?_toArray, List.getElem?_cons_zero, List.getElem?_cons_succ]
        go_wp2_with fail
        refine HK.out _ _ (Ext.refl _) ?_
        clear HK K cB
        have hxe := hx0.trans (hn1.ofCur s.x hgl)
        obtain ⟨wpa, hwa, hba, hca⟩ := two_set B2 (.slice o1 t.ases.length c1) (.slice o2 t.links.length c2)
        have HWa := Lib.hid hwa
        clear hwa
        have ff0 := fr_of B2 0
        have ff1 := fr_of B2 1
        have cb_B2 := blk2 B2
        have cb_B3 := blk3 B3
        have cb_B4 := blk3 B4
        have cb_B6 := blk2 B6
        have cb_B7 := blk3 B7
        refine badStep (by kernel_rfl) (fun K HK => ?_)
        simp only [pick, List.filterMap_cons, List.filterMap_nil, List.getElem?_toArray, List.getElem?_cons_zero, List.getElem?_cons_succ]
        go_wp2_with fail
        refine HK.out _ _ ?_
        clear HK K
        rw [← HWa.out]
        clear HWa ff0 ff1 cb_B2 cb_B3 cb_B4 cb_B6 cb_B7
        replace RA := RA.chg hca (fun k hk e => RA.ne B2 (by decide) (by rw [hk]; exact congrArg some e))
        replace RL := RL.chg hca (fun k hk e => RL.ne B2 (by decide) (by rw [hk]; exact congrArg some e))
        replace RH := RH.chg hca (fun k hk e => RH.ne B2 (by decide) (by rw [hk]; exact congrArg some e))
        replace RB := RB.chg hca (fun k hk e => RB.ne B2 (by decide) (by rw [hk]; exact congrArg some e))
        replace B3 := hca.blkS B3 (by unfold at1; omega)
        replace B4 := hca.blkS B4 (by unfold at1; omega)
        replace B6 := hca.blkS B6 (by unfold at1; omega)
        replace B7 := hca.blkS B7 (by unfold at1; omega)
        replace B2 := hba
        clear hba
        replace hxe := hxe.chg hca (fun i hi => by have h1 : i = w.heap.size := hi; omega)
        clear hca
        obtain ⟨wpb, hwb, hbb, hcb⟩ := three_set B3 (.int .i64 a.ts) (.int .i64 a.beta) (.slice o_a a.hops.length c_a)
        have HWb := Lib.hid hwb
        clear hwb
        have ff0 := fr_of B3 0
        have ff1 := fr_of B3 1
        have ff2 := fr_of B3 2
        have cb_B2 := blk2 B2
        have cb_B3 := blk3 B3
        have cb_B4 := blk3 B4
        have cb_B6 := blk2 B6
        have cb_B7 := blk3 B7
        refine badStep (by kernel_rfl) (fun K HK => ?_)
        simp only [pick, List.filterMap_cons, List.filterMap_nil, List.getElem?_toArray, List.getElem?_cons_zero, List.getElem?_cons_succ]
        go_wp2_with fail
        refine HK.out _ _ ?_
        clear HK K
        rw [← HWb.out]
        clear HWb ff0 ff1 ff2 cb_B2 cb_B3 cb_B4 cb_B6 cb_B7
        replace RA := RA.chg hcb (fun k hk e => RA.ne B3 (by decide) (by rw [hk]; exact congrArg some e))
        replace RL := RL.chg hcb (fun k hk e => RL.ne B3 (by decide) (by rw [hk]; exact congrArg some e))
        replace RH := RH.chg hcb (fun k hk e => RH.ne B3 (by decide) (by rw [hk]; exact congrArg some e))
        replace RB := RB.chg hcb (fun k hk e => RB.ne B3 (by decide) (by rw [hk]; exact congrArg some e))
        replace B2 := hcb.blkS B2 (by unfold at1; omega)
        replace B4 := hcb.blkS B4 (by unfold at1; omega)
        replace B6 := hcb.blkS B6 (by unfold at1; omega)
        replace B7 := hcb.blkS B7 (by unfold at1; omega)
        replace B3 := hbb
        clear hbb
        replace hxe := hxe.chg hcb (fun i hi => by have h1 : i = (w.heap.size + 1) := hi; omega)
        clear hcb
        obtain ⟨wpc, hwc, hbc, hcc⟩ := three_set B4 (.int .i64 b.ts) (.int .i64 b.beta) (.slice o_b b.hops.length c_b)
        have HWc := Lib.hid hwc
        clear hwc
        have ff0 := fr_of B4 0
        have ff1 := fr_of B4 1
        have ff2 := fr_of B4 2
        have cb_B2 := blk2 B2
        have cb_B3 := blk3 B3
        have cb_B4 := blk3 B4
        have cb_B6 := blk2 B6
        have cb_B7 := blk3 B7
        refine badStep (by kernel_rfl) (fun K HK => ?_)
        simp only [pick, List.filterMap_cons, List.filterMap_nil, List.getElem?_toArray, List.getElem?_cons_zero, List.getElem?_cons_succ]
        go_wp2_with fail
        refine HK.out _ _ ?_
        clear HK K
        rw [← HWc.out]
        clear HWc ff0 ff1 ff2 cb_B2 cb_B3 cb_B4 cb_B6 cb_B7
        replace RA := RA.chg hcc (fun k hk e => RA.ne B4 (by decide) (by rw [hk]; exact congrArg some e))
        replace RL := RL.chg hcc (fun k hk e => RL.ne B4 (by decide) (by rw [hk]; exact congrArg some e))
        replace RH := RH.chg hcc (fun k hk e => RH.ne B4 (by decide) (by rw [hk]; exact congrArg some e))
        replace RB := RB.chg hcc (fun k hk e => RB.ne B4 (by decide) (by rw [hk]; exact congrArg some e))
        replace B2 := hcc.blkS B2 (by unfold at1; omega)
        replace B3 := hcc.blkS B3 (by unfold at1; omega)
        replace B6 := hcc.blkS B6 (by unfold at1; omega)
        replace B7 := hcc.blkS B7 (by unfold at1; omega)
        replace B4 := hbc
        clear hbc
        replace hxe := hxe.chg hcc (fun i hi => by have h1 : i = (w.heap.size + 1 + 1) := hi; omega)
        clear hcc
        refine doneStep (by kernel_rfl) ?_
        have cB := blk2 B2
        have cC := blk3 B3
        have cD := blk3 B4
        have hwb := (hx0.trans hn1).size
        go_wp2_with fail
        refine bodyPost_ret (v := .tuple #[.agg #[.slice o1 t.ases.length c1, .slice o2 t.links.length c2], .agg #[.int .i64 a.ts, .int .i64 a.beta, .slice o_a a.hops.length c_a], .agg #[.int .i64 b.ts, .int .i64 b.beta, .slice o_b b.hops.length c_b]]) (by simp [results, Try.results35, go_sem, cB, cC, cD]) rfl ?_
        exact ⟨_, _, _, _, t, kd, 2, a, b, rfl, TK, SD, SE, RA.mono hwb, RL.mono hwb, RH.mono hwb, RB.mono hwb, hxe⟩
      · have hxe := hx0.trans (hn1.ofCur s.x hgl)
        obtain ⟨wpa, hwa, hba, hca⟩ := two_set B2 (.slice o1 t.ases.length c1) (.slice o2 t.links.length c2)
        have HWa := Lib.hid hwa
        clear hwa
        have ff0 := fr_of B2 0
        have ff1 := fr_of B2 1
        have cb_B2 := blk2 B2
        have cb_B3 := blk3 B3
        have cb_B4 := blk3 B4
        have cb_B6 := blk2 B6
        have cb_B7 := blk3 B7
        refine badStep (by kernel_rfl) (fun K HK => ?_)
        simp only [pick, List.filterMap_cons, List.filterMap_nil, List.getElem?_toArray, List.getElem?_cons_zero, List.getElem?_cons_succ]
        go_wp2_with fail
        refine HK.out _ _ ?_
        clear HK K
        rw [← HWa.out]
        clear HWa ff0 ff1 cb_B2 cb_B3 cb_B4 cb_B6 cb_B7
        replace RA := RA.chg hca (fun k hk e => RA.ne B2 (by decide) (by rw [hk]; exact congrArg some e))
        replace RL := RL.chg hca (fun k hk e => RL.ne B2 (by decide) (by rw [hk]; exact congrArg some e))
        replace RH := RH.chg hca (fun k hk e => RH.ne B2 (by decide) (by rw [hk]; exact congrArg some e))
        replace RB := RB.chg hca (fun k hk e => RB.ne B2 (by decide) (by rw [hk]; exact congrArg some e))
        replace B3 := hca.blkS B3 (by unfold at1; omega)
        replace B4 := hca.blkS B4 (by unfold at1; omega)
        replace B6 := hca.blkS B6 (by unfold at1; omega)
        replace B7 := hca.blkS B7 (by unfold at1; omega)
        replace B2 := hba
        clear hba
        replace hxe := hxe.chg hca (fun i hi => by have h1 : i = w.heap.size := hi; omega)
        clear hca
        have cB := blk3 B7
        refine blkStep (fun K HK => ?_)
        simp only [pick, List.filterMap_cons, List.filterMap_nil, List.getElem?_toArray, List.getElem?_cons_zero, List.getElem?_cons_succ]
        go_wp2_with fail
        refine HK.out _ _ ?_
        clear HK K
        clear cB
        obtain ⟨wpb, hwb, hbb, hcb⟩ := three_set B3 (.int .i64 a.ts) (.int .i64 a.beta) (.slice o_a a.hops.length c_a)
        have HWb := Lib.hid hwb
        clear hwb
        have ff0 := fr_of B3 0
        have ff1 := fr_of B3 1
        have ff2 := fr_of B3 2
        have cb_B2 := blk2 B2
        have cb_B3 := blk3 B3
        have cb_B4 := blk3 B4
        have cb_B6 := blk2 B6
        have cb_B7 := blk3 B7
        refine badStep (by kernel_rfl) (fun K HK => ?_)
        simp only [pick, List.filterMap_cons, List.filterMap_nil, List.getElem?_toArray, List.getElem?_cons_zero, List.getElem?_cons_succ]
        go_wp2_with fail
        refine HK.out _ _ ?_
        clear HK K
        rw [← HWb.out]
        clear HWb ff0 ff1 ff2 cb_B2 cb_B3 cb_B4 cb_B6 cb_B7
        replace RA := RA.chg hcb (fun k hk e => RA.ne B3 (by decide) (by rw [hk]; exact congrArg some e))
        replace RL := RL.chg hcb (fun k hk e => RL.ne B3 (by decide) (by rw [hk]; exact congrArg some e))
        replace RH := RH.chg hcb (fun k hk e => RH.ne B3 (by decide) (by rw [hk]; exact congrArg some e))
        replace RB := RB.chg hcb (fun k hk e => RB.ne B3 (by decide) (by rw [hk]; exact congrArg some e))
        replace B2 := hcb.blkS B2 (by unfold at1; omega)
        replace B4 := hcb.blkS B4 (by unfold at1; omega)
        replace B6 := hcb.blkS B6 (by unfold at1; omega)
        replace B7 := hcb.blkS B7 (by unfold at1; omega)
        replace B3 := hbb
        clear hbb
        replace hxe := hxe.chg hcb (fun i hi => by have h1 : i = (w.heap.size + 1) := hi; omega)
        clear hcb
        obtain ⟨wpc, hwc, hbc, hcc⟩ := three_set B4 (.int .i64 b.ts) (.int .i64 b.beta) (.slice o_b b.hops.length c_b)
        have HWc := Lib.hid hwc
        clear hwc
        have ff0 := fr_of B4 0
        have ff1 := fr_of B4 1
        have ff2 := fr_of B4 2
        have cb_B2 := blk2 B2
        have cb_B3 := blk3 B3
        have cb_B4 := blk3 B4
        have cb_B6 := blk2 B6
        have cb_B7 := blk3 B7
        refine badStep (by kernel_rfl) (fun K HK => ?_)
        simp only [pick, List.filterMap_cons, List.filterMap_nil, List.getElem?_toArray, List.getElem?_cons_zero, List.getElem?_cons_succ]
        go_wp2_with fail
        refine HK.out _ _ ?_
        clear HK K
        rw [← HWc.out]
        clear HWc ff0 ff1 ff2 cb_B2 cb_B3 cb_B4 cb_B6 cb_B7
        replace RA := RA.chg hcc (fun k hk e => RA.ne B4 (by decide) (by rw [hk]; exact congrArg some e))
        replace RL := RL.chg hcc (fun k hk e => RL.ne B4 (by decide) (by rw [hk]; exact congrArg some e))
        replace RH := RH.chg hcc (fun k hk e => RH.ne B4 (by decide) (by rw [hk]; exact congrArg some e))
        replace RB := RB.chg hcc (fun k hk e => RB.ne B4 (by decide) (by rw [hk]; exact congrArg some e))
        replace B2 := hcc.blkS B2 (by unfold at1; omega)
        replace B3 := hcc.blkS B3 (by unfold at1; omega)
        replace B6 := hcc.blkS B6 (by unfold at1; omega)
        replace B7 := hcc.blkS B7 (by unfold at1; omega)
        replace B4 := hbc
        clear hbc
        replace hxe := hxe.chg hcc (fun i hi => by have h1 : i = (w.heap.size + 1 + 1) := hi; omega)
        clear hcc
        refine doneStep (by kernel_rfl) ?_
        have cB := blk2 B2
        have cC := blk3 B3
        have cD := blk3 B4
        have hwb := (hx0.trans hn1).size
        go_wp2_with fail
        refine bodyPost_ret (v := .tuple #[.agg #[.slice o1 t.ases.length c1, .slice o2 t.links.length c2], .agg #[.int .i64 a.ts, .int .i64 a.beta, .slice o_a a.hops.length c_a], .agg #[.int .i64 b.ts, .int .i64 b.beta, .slice o_b b.hops.length c_b]]) (by simp [results, Try.results35, go_sem, cB, cC, cD]) rfl ?_
        exact ⟨_, _, _, _, t, kd, 2, a, b, rfl, TK, SD, SE, RA.mono hwb, RL.mono hwb, RH.mono hwb, RB.mono hwb, hxe⟩
  case true =>
    have cb_B2 := blk2 B2
    have cb_B3 := blk3 B3
    have cb_B4 := blk3 B4
    have cb_B6 := blk2 B6
    have cb_B7 := blk3 B7
    go_upto_region 6 with (fail)
    clear cb_B2 cb_B3 cb_B4 cb_B6 cb_B7
    replace B2 := Ext.block ((Ext.refl w3).drew) B2
    replace B3 := Ext.block ((Ext.refl w3).drew) B3
    replace B4 := Ext.block ((Ext.refl w3).drew) B4
    replace B6 := Ext.block ((Ext.refl w3).drew) B6
    replace B7 := Ext.block ((Ext.refl w3).drew) B7
    replace RA := RA.ext ((Ext.refl w3).drew)
    replace RL := RL.ext ((Ext.refl w3).drew)
    replace RH := RH.ext ((Ext.refl w3).drew)
    replace s := s.ext ((Ext.refl w3).drew)
    refine planStep (.blk [2, 3, 4] (.tri 0 1 5 (.two 1 5 (.one 5 (.one 6 (.one 7 (.one 8 .done)))) (.two 1 6 (.one 6 (.one 7 (.one 8 .done))) (.blk [1] (.one 7 (.one 8 .done))))) (.two 0 5 (.one 5 (.one 6 (.one 7 (.one 8 .done)))) (.blk [0] (.one 6 (.one 7 (.one 8 .done))))) (.blk [0] (.two 1 6 (.one 6 (.one 7 (.one 8 .done))) (.blk [1] (.one 7 (.one 8 .done))))))) [5, 6, 7, 8] (by kernel_rfl) (by kernel_rfl) ?_
    generalize w3.drew = wdd at B2 B3 B4 B6 B7 RA RL RH s ⊢
    have cB := blk2 B6
    refine blkStep (fun K HK => ?_)
    simp only [pick, List.filterMap_cons, List.filterMap_nil, List.getElem?_toArray, List.getElem?_cons_zero, List.getElem?_cons_succ]
    go_wp2_with fail
    refine HK.out _ _ ?_
    clear HK K
    clear cB
    refine triStep ?_ ?_ ?_
    · have cB := blk2 B6
      refine oneStep (fun K HK => ?_)
      simp only [pick, List.filterMap_cons, List.filterMap_nil, List.getElem?_toArray, List.getElem?_cons_zero]
      go_wp2_with fail
      refine HK.out _ _ (Ext.refl _) ?_
      clear HK K cB
      refine twoStep ?_ ?_
      · have cB := blk3 B7
        refine oneStep (fun K HK => ?_)
        simp only [pick, List.filterMap_cons, List.filterMap_nil, List.getElem?_toArray, List.getElem?_cons_zero, List.getElem?_cons_succ]
        go_wp2_with fail
        refine HK.out _ _ (Ext.refl _) ?_
        clear HK K cB
        refine badStep (by kernel_rfl) (fun K HK => ?_)
        simp only [pick, List.filterMap_cons, List.filterMap_nil, List.getElem?_toArray, List.getElem?_cons_zero, List.getElem?_cons_succ]
        go_wp2_with fail
        have hbs := s.x.size
        refine (s_l9Grow g t (.slice o1 t.ases.length c1) (.slice o2 t.links.length c2) 1 _ _ _ s.c TK (St.ofF RA hgw) (St.ofF RL hgw)).mono ?_
        rintro e w9 ⟨vb, b, rfl, SE, RB, hcq, hzq⟩
        replace RB := RB.mono hbs
        replace B2 := hzq.blkS B2 (by unfold at1; omega)
        replace B3 := hzq.blkS B3 (by unfold at1; omega)
        replace B4 := hzq.blkS B4 (by unfold at1; omega)
        replace B6 := hzq.blkS B6 (by unfold at1; omega)
        replace B7 := hzq.blkS B7 (by unfold at1; omega)
        replace RA := RA.at1 hzq hgw
        replace RL := RL.at1 hzq hgw
        replace RH := RH.at1 hzq hgw
        replace s := s.draw hcq hzq
        clear hcq hzq hbs
        obtain ⟨o_b, c_b, rfl, _⟩ := (OwnF.rd (hf := Hop.flen) RB).shape
        go_wp2_with fail
        refine HK.out _ _ ?_
        clear HK K
        have hxe := hx0.trans (hn1.ofCur s.x hgl)
        obtain ⟨wpa, hwa, hba, hca⟩ := two_set B2 (.slice o1 t.ases.length c1) (.slice o2 t.links.length c2)
        have HWa := Lib.hid hwa
        clear hwa
        have ff0 := fr_of B2 0
        have ff1 := fr_of B2 1
        have cb_B2 := blk2 B2
        have cb_B3 := blk3 B3
        have cb_B4 := blk3 B4
        have cb_B6 := blk2 B6
        have cb_B7 := blk3 B7
        refine badStep (by kernel_rfl) (fun K HK => ?_)
        simp only [pick, List.filterMap_cons, List.filterMap_nil, List.getElem?_toArray, List.getElem?_cons_zero, List.getElem?_cons_succ]
        go_wp2_with fail
        refine HK.out _ _ ?_
        clear HK K
        rw [← HWa.out]
        clear HWa ff0 ff1 cb_B2 cb_B3 cb_B4 cb_B6 cb_B7
        replace RA := RA.chg hca (fun k hk e => RA.ne B2 (by decide) (by rw [hk]; exact congrArg some e))
        replace RL := RL.chg hca (fun k hk e => RL.ne B2 (by decide) (by rw [hk]; exact congrArg some e))
        replace RH := RH.chg hca (fun k hk e => RH.ne B2 (by decide) (by rw [hk]; exact congrArg some e))
        replace RB := RB.chg hca (fun k hk e => RB.ne B2 (by decide) (by rw [hk]; exact congrArg some e))
        replace B3 := hca.blkS B3 (by unfold at1; omega)
        replace B4 := hca.blkS B4 (by unfold at1; omega)
        replace B6 := hca.blkS B6 (by unfold at1; omega)
        replace B7 := hca.blkS B7 (by unfold at1; omega)
        replace B2 := hba
        clear hba
        replace hxe := hxe.chg hca (fun i hi => by have h1 : i = w.heap.size := hi; omega)
        clear hca
        obtain ⟨wpb, hwb, hbb, hcb⟩ := three_set B3 (.int .i64 a.ts) (.int .i64 a.beta) (.slice o_a a.hops.length c_a)
        have HWb := Lib.hid hwb
        clear hwb
        have ff0 := fr_of B3 0
        have ff1 := fr_of B3 1
        have ff2 := fr_of B3 2
        have cb_B2 := blk2 B2
        have cb_B3 := blk3 B3
        have cb_B4 := blk3 B4
        have cb_B6 := blk2 B6
        have cb_B7 := blk3 B7
        refine badStep (by kernel_rfl) (fun K HK => ?_)
        simp only [pick, List.filterMap_cons, List.filterMap_nil, List.getElem?_toArray, List.getElem?_cons_zero, List.getElem?_cons_succ]
        go_wp2_with fail
        refine HK.out _ _ ?_
        clear HK K
        rw [← HWb.out]
        clear HWb ff0 ff1 ff2 cb_B2 cb_B3 cb_B4 cb_B6 cb_B7
        replace RA := RA.chg hcb (fun k hk e => RA.ne B3 (by decide) (by rw [hk]; exact congrArg some e))
        replace RL := RL.chg hcb (fun k hk e => RL.ne B3 (by decide) (by rw [hk]; exact congrArg some e))
        replace RH := RH.chg hcb (fun k hk e => RH.ne B3 (by decide) (by rw [hk]; exact congrArg some e))
        replace RB := RB.chg hcb (fun k hk e => RB.ne B3 (by decide) (by rw [hk]; exact congrArg some e))
        replace B2 := hcb.blkS B2 (by unfold at1; omega)
        replace B4 := hcb.blkS B4 (by unfold at1; omega)
        replace B6 := hcb.blkS B6 (by unfold at1; omega)
        replace B7 := hcb.blkS B7 (by unfold at1; omega)
        replace B3 := hbb
        clear hbb
        replace hxe := hxe.chg hcb (fun i hi => by have h1 : i = (w.heap.size + 1) := hi; omega)
        clear hcb
        obtain ⟨wpc, hwc, hbc, hcc⟩ := three_set B4 (.int .i64 b.ts) (.int .i64 b.beta) (.slice o_b b.hops.length c_b)
        have HWc := Lib.hid hwc
        clear hwc
        have ff0 := fr_of B4 0
        have ff1 := fr_of B4 1
        have ff2 := fr_of B4 2
        have cb_B2 := blk2 B2
        have cb_B3 := blk3 B3
        have cb_B4 := blk3 B4
        have cb_B6 := blk2 B6
        have cb_B7 := blk3 B7
        refine badStep (by kernel_rfl) (fun K HK => ?_)
        simp only [pick, List.filterMap_cons, List.filterMap_nil, List.getElem?_toArray, List.getElem?_cons_zero, List.getElem?_cons_succ]
        go_wp2_with fail
        refine HK.out _ _ ?_
        clear HK K
        rw [← HWc.out]
        clear HWc ff0 ff1 ff2 cb_B2 cb_B3 cb_B4 cb_B6 cb_B7
        replace RA := RA.chg hcc (fun k hk e => RA.ne B4 (by decide) (by rw [hk]; exact congrArg some e))
        replace RL := RL.chg hcc (fun k hk e => RL.ne B4 (by decide) (by rw [hk]; exact congrArg some e))
        replace RH := RH.chg hcc (fun k hk e => RH.ne B4 (by decide) (by rw [hk]; exact congrArg some e))
        replace RB := RB.chg hcc (fun k hk e => RB.ne B4 (by decide) (by rw [hk]; exact congrArg some e))
        replace B2 := hcc.blkS B2 (by unfold at1; omega)
        replace B3 := hcc.blkS B3 (by unfold at1; omega)
        replace B6 := hcc.blkS B6 (by unfold at1; omega)
        replace B7 := hcc.blkS B7 (by unfold at1; omega)
        replace B4 := hbc
        clear hbc
        replace hxe := hxe.chg hcc (fun i hi => by have h1 : i = (w.heap.size + 1 + 1) := hi; omega)
        clear hcc
        refine doneStep (by kernel_rfl) ?_
        have cB := blk2 B2
        have cC := blk3 B3
        have cD := blk3 B4
        have hwb := (hx0.trans hn1).size
        go_wp2_with fail
        refine bodyPost_ret (v := .tuple #[.agg #[.slice o1 t.ases.length c1, .slice o2 t.links.length c2], .agg #[.int .i64 a.ts, .int .i64 a.beta, .slice o_a a.hops.length c_a], .agg #[.int .i64 b.ts, .int .i64 b.beta, .slice o_b b.hops.length c_b]]) (by simp [results, Try.results35, go_sem, cB, cC, cD]) rfl ?_
        exact ⟨_, _, _, _, t, kd, 1, a, b, rfl, TK, SD, SE, RA.mono hwb, RL.mono hwb, RH.mono hwb, RB.mono hwb, hxe⟩
      · refine badStep (by kernel_rfl) (fun K HK => ?_)
        simp only [pick, List.filterMap_cons, List.filterMap_nil, List.getElem?_toArray, List.getElem?_cons_zero, List.getElem?_cons_succ]
        go_wp2_with fail
        have hbs := s.x.size
        refine (s_l9Grow g t (.slice o1 t.ases.length c1) (.slice o2 t.links.length c2) 1 _ _ _ s.c TK (St.ofF RA hgw) (St.ofF RL hgw)).mono ?_
        rintro e w10 ⟨vb, b, rfl, SE, RB, hcq, hzq⟩
        replace RB := RB.mono hbs
        replace B2 := hzq.blkS B2 (by unfold at1; omega)
        replace B3 := hzq.blkS B3 (by unfold at1; omega)
        replace B4 := hzq.blkS B4 (by unfold at1; omega)
        replace B6 := hzq.blkS B6 (by unfold at1; omega)
        replace B7 := hzq.blkS B7 (by unfold at1; omega)
        replace RA := RA.at1 hzq hgw
        replace RL := RL.at1 hzq hgw
        replace RH := RH.at1 hzq hgw
        replace s := s.draw hcq hzq
        clear hcq hzq hbs
        obtain ⟨o_b, c_b, rfl, _⟩ := (OwnF.rd (hf := Hop.flen) RB).shape
        go_wp2_with fail
        refine HK.out _ _ ?_
        clear HK K
        refine twoStep ?_ ?_
        · have cB := blk3 B7
          refine oneStep (fun K HK => ?_)
          simp only [pick, List.filterMap_cons, List.filterMap_nil, List.getElem?_toArray, List.getElem?_cons_zero, List.getElem?_cons_succ]
          go_wp2_with fail
          refine HK.out _ _ (Ext.refl _) ?_
          clear HK K cB
          have hxe := hx0.trans (hn1.ofCur s.x hgl)
          obtain ⟨wpa, hwa, hba, hca⟩ := two_set B2 (.slice o1 t.ases.length c1) (.slice o2 t.links.length c2)
          have HWa := Lib.hid hwa
          clear hwa
          have ff0 := fr_of B2 0
          have ff1 := fr_of B2 1
          have cb_B2 := blk2 B2
          have cb_B3 := blk3 B3
          have cb_B4 := blk3 B4
          have cb_B6 := blk2 B6
          have cb_B7 := blk3 B7
          refine badStep (by kernel_rfl) (fun K HK => ?_)
          simp only [pick, List.filterMap_cons, List.filterMap_nil, List.getElem?_toArray, List.getElem?_cons_zero, List.getElem?_cons_succ]
          go_wp2_with fail
          refine HK.out _ _ ?_
          clear HK K
          rw [← HWa.out]
          clear HWa ff0 ff1 cb_B2 cb_B3 cb_B4 cb_B6 cb_B7
          replace RA := RA.chg hca (fun k hk e => RA.ne B2 (by decide) (by rw [hk]; exact congrArg some e))
          replace RL := RL.chg hca (fun k hk e => RL.ne B2 (by decide) (by rw [hk]; exact congrArg some e))
          replace RH := RH.chg hca (fun k hk e => RH.ne B2 (by decide) (by rw [hk]; exact congrArg some e))
          replace RB := RB.chg hca (fun k hk e => RB.ne B2 (by decide) (by rw [hk]; exact congrArg some e))
          replace B3 := hca.blkS B3 (by unfold at1; omega)
          replace B4 := hca.blkS B4 (by unfold at1; omega)
          replace B6 := hca.blkS B6 (by unfold at1; omega)
          replace B7 := hca.blkS B7 (by unfold at1; omega)
          replace B2 := hba
          clear hba
          replace hxe := hxe.chg hca (fun i hi => by have h1 : i = w.heap.size := hi; omega)
          clear hca
          obtain ⟨wpb, hwb, hbb, hcb⟩ := three_set B3 (.int .i64 a.ts) (.int .i64 a.beta) (.slice o_a a.hops.length c_a)
          have HWb := Lib.hid hwb
          clear hwb
          have ff0 := fr_of B3 0
          have ff1 := fr_of B3 1
          have ff2 := fr_of B3 2
          have cb_B2 := blk2 B2
          have cb_B3 := blk3 B3
          have cb_B4 := blk3 B4
          have cb_B6 := blk2 B6
          have cb_B7 := blk3 B7
          refine badStep (by kernel_rfl) (fun K HK => ?_)
          simp only [pick, List.filterMap_cons, List.filterMap_nil, List.getElem?_toArray, List.getElem?_cons_zero, List.getElem?_cons_succ]
          go_wp2_with fail
          refine HK.out _ _ ?_
          clear HK K
          rw [← HWb.out]
          clear HWb ff0 ff1 ff2 cb_B2 cb_B3 cb_B4 cb_B6 cb_B7
          replace RA := RA.chg hcb (fun k hk e => RA.ne B3 (by decide) (by rw [hk]; exact congrArg some e))
          replace RL := RL.chg hcb (fun k hk e => RL.ne B3 (by decide) (by rw [hk]; exact congrArg some e))
          replace RH := RH.chg hcb (fun k hk e => RH.ne B3 (by decide) (by rw [hk]; exact congrArg some e))
          replace RB := RB.chg hcb (fun k hk e => RB.ne B3 (by decide) (by rw [hk]; exact congrArg some e))
          replace B2 := hcb.blkS B2 (by unfold at1; omega)
          replace B4 := hcb.blkS B4 (by unfold at1; omega)
          replace B6 := hcb.blkS B6 (by unfold at1; omega)
          replace B7 := hcb.blkS B7 (by unfold at1; omega)
          replace B3 := hbb
          clear hbb
          replace hxe := hxe.chg hcb (fun i hi => by have h1 : i = (w.heap.size + 1) := hi; omega)
          clear hcb
          obtain ⟨wpc, hwc, hbc, hcc⟩ := three_set B4 (.int .i64 b.ts) (.int .i64 b.beta) (.slice o_b b.hops.length c_b)
          have HWc := Lib.hid hwc
          clear hwc
          have ff0 := fr_of B4 0
          have ff1 := fr_of B4 1
          have ff2 := fr_of B4 2
          have cb_B2 := blk2 B2
          have cb_B3 := blk3 B3
          have cb_B4 := blk3 B4
          have cb_B6 := blk2 B6
          have cb_B7 := blk3 B7
          refine badStep (by kernel_rfl) (fun K HK => ?_)
          simp only [pick, List.filterMap_cons, List.filterMap_nil, List.getElem?_toArray, List.getElem?_cons_zero, List.getElem?_cons_succ]
          go_wp2_with fail
          refine HK.out _ _ ?_
          clear HK K
          rw [← HWc.out]
          clear HWc ff0 ff1 ff2 cb_B2 cb_B3 cb_B4 cb_B6 cb_B7
          replace RA := RA.chg hcc (fun k hk e => RA.ne B4 (by decide) (by rw [hk]; exact congrArg some e))
          replace RL := RL.chg hcc (fun k hk e => RL.ne B4 (by decide) (by rw [hk]; exact congrArg some e))
          replace RH := RH.chg hcc (fun k hk e => RH.ne B4 (by decide) (by rw [hk]; exact congrArg some e))
          replace RB := RB.chg hcc (fun k hk e => RB.ne B4 (by decide) (by rw [hk]; exact congrArg some e))
          replace B2 := hcc.blkS B2 (by unfold at1; omega)
          replace B3 := hcc.blkS B3 (by unfold at1; omega)
          replace B6 := hcc.blkS B6 (by unfold at1; omega)
          replace B7 := hcc.blkS B7 (by unfold at1; omega)
          replace B4 := hbc
          clear hbc
          replace hxe := hxe.chg hcc (fun i hi => by have h1 : i = (w.heap.size + 1 + 1) := hi; omega)
          clear hcc
          refine doneStep (by kernel_rfl) ?_
          have cB := blk2 B2
          have cC := blk3 B3
          have cD := blk3 B4
          have hwb := (hx0.trans hn1).size
          go_wp2_with fail
          refine bodyPost_ret (v := .tuple #[.agg #[.slice o1 t.ases.length c1, .slice o2 t.links.length c2], .agg #[.int .i64 a.ts, .int .i64 a.beta, .slice o_a a.hops.length c_a], .agg #[.int .i64 b.ts, .int .i64 b.beta, .slice o_b b.hops.length c_b]]) (by simp [results, Try.results35, go_sem, cB, cC, cD]) rfl ?_
          exact ⟨_, _, _, _, t, kd, 1, a, b, rfl, TK, SD, SE, RA.mono hwb, RL.mono hwb, RH.mono hwb, RB.mono hwb, hxe⟩
        · have hxe := hx0.trans (hn1.ofCur s.x hgl)
          obtain ⟨wpa, hwa, hba, hca⟩ := two_set B2 (.slice o1 t.ases.length c1) (.slice o2 t.links.length c2)
          have HWa := Lib.hid hwa
          clear hwa
          have ff0 := fr_of B2 0
          have ff1 := fr_of B2 1
          have cb_B2 := blk2 B2
          have cb_B3 := blk3 B3
          have cb_B4 := blk3 B4
          have cb_B6 := blk2 B6
          have cb_B7 := blk3 B7
          refine badStep (by kernel_rfl) (fun K HK => ?_)
          simp only [pick, List.filterMap_cons, List.filterMap_nil, List.getElem?_toArray, List.getElem?_cons_zero, List.getElem?_cons_succ]
          go_wp2_with fail
          refine HK.out _ _ ?_
          clear HK K
          rw [← HWa.out]
          clear HWa ff0 ff1 cb_B2 cb_B3 cb_B4 cb_B6 cb_B7
          replace RA := RA.chg hca (fun k hk e => RA.ne B2 (by decide) (by rw [hk]; exact congrArg some e))
          replace RL := RL.chg hca (fun k hk e => RL.ne B2 (by decide) (by rw [hk]; exact congrArg some e))
          replace RH := RH.chg hca (fun k hk e => RH.ne B2 (by decide) (by rw [hk]; exact congrArg some e))
          replace RB := RB.chg hca (fun k hk e => RB.ne B2 (by decide) (by rw [hk]; exact congrArg some e))
          replace B3 := hca.blkS B3 (by unfold at1; omega)
          replace B4 := hca.blkS B4 (by unfold at1; omega)
          replace B6 := hca.blkS B6 (by unfold at1; omega)
          replace B7 := hca.blkS B7 (by unfold at1; omega)
          replace B2 := hba
          clear hba
          replace hxe := hxe.chg hca (fun i hi => by have h1 : i = w.heap.size := hi; omega)
          clear hca
          have cB := blk3 B7
          refine blkStep (fun K HK => ?_)
          simp only [pick, List.filterMap_cons, List.filterMap_nil, List.getElem?_toArray, List.getElem?_cons_zero, List.getElem?_cons_succ]
          go_wp2_with fail
          refine HK.out _ _ ?_
          clear HK K
          clear cB
          obtain ⟨wpb, hwb, hbb, hcb⟩ := three_set B3 (.int .i64 a.ts) (.int .i64 a.beta) (.slice o_a a.hops.length c_a)
          have HWb := Lib.hid hwb
          clear hwb
          have ff0 := fr_of B3 0
          have ff1 := fr_of B3 1
          have ff2 := fr_of B3 2
          have cb_B2 := blk2 B2
          have cb_B3 := blk3 B3
          have cb_B4 := blk3 B4
          have cb_B6 := blk2 B6
          have cb_B7 := blk3 B7
          refine badStep (by kernel_rfl) (fun K HK => ?_)
          simp only [pick, List.filterMap_cons, List.filterMap_nil, List.getElem?_toArray, List.getElem?_cons_zero, List.getElem?_cons_succ]
          go_wp2_with fail
          refine HK.out _ _ ?_
          clear HK K
          rw [← HWb.out]
          clear HWb ff0 ff1 ff2 cb_B2 cb_B3 cb_B4 cb_B6 cb_B7
          replace RA := RA.chg hcb (fun k hk e => RA.ne B3 (by decide) (by rw [hk]; exact congrArg some e))
          replace RL := RL.chg hcb (fun k hk e => RL.ne B3 (by decide) (by rw [hk]; exact congrArg some e))
          replace RH := RH.chg hcb (fun k hk e => RH.ne B3 (by decide) (by rw [hk]; exact congrArg some e))
          replace RB := RB.chg hcb (fun k hk e => RB.ne B3 (by decide) (by rw [hk]; exact congrArg some e))
          replace B2 := hcb.blkS B2 (by unfold at1; omega)
          replace B4 := hcb.blkS B4 (by unfold at1; omega)
          replace B6 := hcb.blkS B6 (by unfold at1; omega)
          replace B7 := hcb.blkS B7 (by unfold at1; omega)
          replace B3 := hbb
          clear hbb
          replace hxe := hxe.chg hcb (fun i hi => by have h1 : i = (w.heap.size + 1) := hi; omega)
          clear hcb
          obtain ⟨wpc, hwc, hbc, hcc⟩ := three_set B4 (.int .i64 b.ts) (.int .i64 b.beta) (.slice o_b b.hops.length c_b)
          have HWc := Lib.hid hwc
          clear hwc
          have ff0 := fr_of B4 0
          have ff1 := fr_of B4 1
          have ff2 := fr_of B4 2
          have cb_B2 := blk2 B2
          have cb_B3 := blk3 B3
          have cb_B4 := blk3 B4
          have cb_B6 := blk2 B6
          have cb_B7 := blk3 B7
          refine badStep (by kernel_rfl) (fun K HK => ?_)
          simp only [pick, List.filterMap_cons, List.filterMap_nil, List.getElem?_toArray, List.getElem?_cons_zero, List.getElem?_cons_succ]
          go_wp2_with fail
          refine HK.out _ _ ?_
          clear HK K
          rw [← HWc.out]
          clear HWc ff0 ff1 ff2 cb_B2 cb_B3 cb_B4 cb_B6 cb_B7
          replace RA := RA.chg hcc (fun k hk e => RA.ne B4 (by decide) (by rw [hk]; exact congrArg some e))
          replace RL := RL.chg hcc (fun k hk e => RL.ne B4 (by decide) (by rw [hk]; exact congrArg some e))
          replace RH := RH.chg hcc (fun k hk e => RH.ne B4 (by decide) (by rw [hk]; exact congrArg some e))
          replace RB := RB.chg hcc (fun k hk e => RB.ne B4 (by decide) (by rw [hk]; exact congrArg some e))
          replace B2 := hcc.blkS B2 (by unfold at1; omega)
          replace B3 := hcc.blkS B3 (by unfold at1; omega)
          replace B6 := hcc.blkS B6 (by unfold at1; omega)
          replace B7 := hcc.blkS B7 (by unfold at1; omega)
          replace B4 := hbc
          clear hbc
          replace hxe := hxe.chg hcc (fun i hi => by have h1 : i = (w.heap.size + 1 + 1) := hi; omega)
          clear hcc
          refine doneStep (by kernel_rfl) ?_
          have cB := blk2 B2
          have cC := blk3 B3
          have cD := blk3 B4
          have hwb := (hx0.trans hn1).size
          go_wp2_with fail
          refine bodyPost_ret (v := .tuple #[.agg #[.slice o1 t.ases.length c1, .slice o2 t.links.length c2], .agg #[.int .i64 a.ts, .int .i64 a.beta, .slice o_a a.hops.length c_a], .agg #[.int .i64 b.ts, .int .i64 b.beta, .slice o_b b.hops.length c_b]]) (by simp [results, Try.results35, go_sem, cB, cC, cD]) rfl ?_
          exact ⟨_, _, _, _, t, kd, 1, a, b, rfl, TK, SD, SE, RA.mono hwb, RL.mono hwb, RH.mono hwb, RB.mono hwb, hxe⟩
    · have cB := blk3 B7
      refine oneStep (fun K HK => ?_)
      simp only [pick, List.filterMap_cons, List.filterMap_nil, List.getElem?_toArray, List.getElem?_cons_zero, List.getElem?_cons_succ]
      go_wp2_with fail
      refine HK.out _ _ (Ext.refl _) ?_
      clear HK K cB
      refine twoStep ?_ ?_
      · have cB := blk2 B6
        refine oneStep (fun K HK => ?_)
        simp only [pick, List.filterMap_cons, List.filterMap_nil, List.getElem?_toArray, List.getElem?_cons_zero]
        go_wp2_with fail
        refine HK.out _ _ (Ext.refl _) ?_
        clear HK K cB
        refine badStep (by kernel_rfl) (fun K HK => ?_)
        simp only [pick, List.filterMap_cons, List.filterMap_nil, List.getElem?_toArray, List.getElem?_cons_zero, List.getElem?_cons_succ]
        go_wp2_with fail
        have hbs := s.x.size
        refine (s_l9Grow g t (.slice o1 t.ases.length c1) (.slice o2 t.links.length c2) 1 _ _ _ s.c TK (St.ofF RA hgw) (St.ofF RL hgw)).mono ?_
        rintro e w11 ⟨vb, b, rfl, SE, RB, hcq, hzq⟩
        replace RB := RB.mono hbs
        replace B2 := hzq.blkS B2 (by unfold at1; omega)
        replace B3 := hzq.blkS B3 (by unfold at1; omega)
        replace B4 := hzq.blkS B4 (by unfold at1; omega)
        replace B6 := hzq.blkS B6 (by unfold at1; omega)
        replace B7 := hzq.blkS B7 (by unfold at1; omega)
        replace RA := RA.at1 hzq hgw
        replace RL := RL.at1 hzq hgw
        replace RH := RH.at1 hzq hgw
        replace s := s.draw hcq hzq
        clear hcq hzq hbs
        obtain ⟨o_b, c_b, rfl, _⟩ := (OwnF.rd (hf := Hop.flen) RB).shape
        go_wp2_with fail
        refine HK.out _ _ ?_
        clear HK K
        have hxe := hx0.trans (hn1.ofCur s.x hgl)
        obtain ⟨wpa, hwa, hba, hca⟩ := two_set B2 (.slice o1 t.ases.length c1) (.slice o2 t.links.length c2)
        have HWa := Lib.hid hwa
        clear hwa
        have ff0 := fr_of B2 0
        have ff1 := fr_of B2 1
        have cb_B2 := blk2 B2
        have cb_B3 := blk3 B3
        have cb_B4 := blk3 B4
        have cb_B6 := blk2 B6
        have cb_B7 := blk3 B7
        refine badStep (by kernel_rfl) (fun K HK => ?_)
        simp only [pick, List.filterMap_cons, List.filterMap_nil, List.getElem?_toArray, List.getElem?_cons_zero, List.getElem?_cons_succ]
        go_wp2_with fail
        refine HK.out _ _ ?_
        clear HK K
        rw [← HWa.out]
        clear HWa ff0 ff1 cb_B2 cb_B3 cb_B4 cb_B6 cb_B7
        replace RA := RA.chg hca (fun k hk e => RA.ne B2 (by decide) (by rw [hk]; exact congrArg some e))
        replace RL := RL.chg hca (fun k hk e => RL.ne B2 (by decide) (by rw [hk]; exact congrArg some e))
        replace RH := RH.chg hca (fun k hk e => RH.ne B2 (by decide) (by rw [hk]; exact congrArg some e))
        replace RB := RB.chg hca (fun k hk e => RB.ne B2 (by decide) (by rw [hk]; exact congrArg some e))
        replace B3 := hca.blkS B3 (by unfold at1; omega)
        replace B4 := hca.blkS B4 (by unfold at1; omega)
        replace B6 := hca.blkS B6 (by unfold at1; omega)
        replace B7 := hca.blkS B7 (by unfold at1; omega)
        replace B2 := hba
        clear hba
        replace hxe := hxe.chg hca (fun i hi => by have h1 : i = w.heap.size := hi; omega)
        clear hca
        obtain ⟨wpb, hwb, hbb, hcb⟩ := three_set B3 (.int .i64 a.ts) (.int .i64 a.beta) (.slice o_a a.hops.length c_a)
        have HWb := Lib.hid hwb
        clear hwb
        have ff0 := fr_of B3 0
        have ff1 := fr_of B3 1
        have ff2 := fr_of B3 2
        have cb_B2 := blk2 B2
        have cb_B3 := blk3 B3
        have cb_B4 := blk3 B4
        have cb_B6 := blk2 B6
        have cb_B7 := blk3 B7
        refine badStep (by kernel_rfl) (fun K HK => ?_)
        simp only [pick, List.filterMap_cons, List.filterMap_nil, List.getElem?_toArray, List.getElem?_cons_zero, List.getElem?_cons_succ]
        go_wp2_with fail
        refine HK.out _ _ ?_
        clear HK K
        rw [← HWb.out]
        clear HWb ff0 ff1 ff2 cb_B2 cb_B3 cb_B4 cb_B6 cb_B7
        replace RA := RA.chg hcb (fun k hk e => RA.ne B3 (by decide) (by rw [hk]; exact congrArg some e))
        replace RL := RL.chg hcb (fun k hk e => RL.ne B3 (by decide) (by rw [hk]; exact congrArg some e))
        replace RH := RH.chg hcb (fun k hk e => RH.ne B3 (by decide) (by rw [hk]; exact congrArg some e))
        replace RB := RB.chg hcb (fun k hk e => RB.ne B3 (by decide) (by rw [hk]; exact congrArg some e))
        replace B2 := hcb.blkS B2 (by unfold at1; omega)
        replace B4 := hcb.blkS B4 (by unfold at1; omega)
        replace B6 := hcb.blkS B6 (by unfold at1; omega)
        replace B7 := hcb.blkS B7 (by unfold at1; omega)
        replace B3 := hbb
        clear hbb
        replace hxe := hxe.chg hcb (fun i hi => by have h1 : i = (w.heap.size + 1) := hi; omega)
        clear hcb
        obtain ⟨wpc, hwc, hbc, hcc⟩ := three_set B4 (.int .i64 b.ts) (.int .i64 b.beta) (.slice o_b b.hops.length c_b)
        have HWc := Lib.hid hwc
        clear hwc
        have ff0 := fr_of B4 0
        have ff1 := fr_of B4 1
        have ff2 := fr_of B4 2
        have cb_B2 := blk2 B2
        have cb_B3 := blk3 B3
        have cb_B4 := blk3 B4
        have cb_B6 := blk2 B6
        have cb_B7 := blk3 B7
        refine badStep (by kernel_rfl) (fun K HK => ?_)
        simp only [pick, List.filterMap_cons, List.filterMap_nil, List.getElem?_toArray, List.getElem?_cons_zero, List.getElem?_cons_succ]
        go_wp2_with fail
        refine HK.out _ _ ?_
        clear HK K
        rw [← HWc.out]
        clear HWc ff0 ff1 ff2 cb_B2 cb_B3 cb_B4 cb_B6 cb_B7
        replace RA := RA.chg hcc (fun k hk e => RA.ne B4 (by decide) (by rw [hk]; exact congrArg some e))
        replace RL := RL.chg hcc (fun k hk e => RL.ne B4 (by decide) (by rw [hk]; exact congrArg some e))
        replace RH := RH.chg hcc (fun k hk e => RH.ne B4 (by decide) (by rw [hk]; exact congrArg some e))
        replace RB := RB.chg hcc (fun k hk e => RB.ne B4 (by decide) (by rw [hk]; exact congrArg some e))
        replace B2 := hcc.blkS B2 (by unfold at1; omega)
        replace B3 := hcc.blkS B3 (by unfold at1; omega)
        replace B6 := hcc.blkS B6 (by unfold at1; omega)
        replace B7 := hcc.blkS B7 (by unfold at1; omega)
        replace B4 := hbc
        clear hbc
        replace hxe := hxe.chg hcc (fun i hi => by have h1 : i = (w.heap.size + 1 + 1) := hi; omega)
        clear hcc
        refine doneStep (by kernel_rfl) ?_
        have cB := blk2 B2
        have cC := blk3 B3
        have cD := blk3 B4
        have hwb := (hx0.trans hn1).size
        go_wp2_with fail
        refine bodyPost_ret (v := .tuple #[.agg #[.slice o1 t.ases.length c1, .slice o2 t.links.length c2], .agg #[.int .i64 a.ts, .int .i64 a.beta, .slice o_a a.hops.length c_a], .agg #[.int .i64 b.ts, .int .i64 b.beta, .slice o_b b.hops.length c_b]]) (by simp [results, Try.results35, go_sem, cB, cC, cD]) rfl ?_
        exact ⟨_, _, _, _, t, kd, 1, a, b, rfl, TK, SD, SE, RA.mono hwb, RL.mono hwb, RH.mono hwb, RB.mono hwb, hxe⟩
      · refine badStep (by kernel_rfl) (fun K HK => ?_)
        simp only [pick, List.filterMap_cons, List.filterMap_nil, List.getElem?_toArray, List.getElem?_cons_zero, List.getElem?_cons_succ]
        go_wp2_with fail
        have hbs := s.x.size
        refine (s_l9Grow g t (.slice o1 t.ases.length c1) (.slice o2 t.links.length c2) 1 _ _ _ s.c TK (St.ofF RA hgw) (St.ofF RL hgw)).mono ?_
        rintro e w12 ⟨vb, b, rfl, SE, RB, hcq, hzq⟩
        replace RB := RB.mono hbs
        replace B2 := hzq.blkS B2 (by unfold at1; omega)
        replace B3 := hzq.blkS B3 (by unfold at1; omega)
        replace B4 := hzq.blkS B4 (by unfold at1; omega)
        replace B6 := hzq.blkS B6 (by unfold at1; omega)
        replace B7 := hzq.blkS B7 (by unfold at1; omega)
        replace RA := RA.at1 hzq hgw
        replace RL := RL.at1 hzq hgw
        replace RH := RH.at1 hzq hgw
        replace s := s.draw hcq hzq
        clear hcq hzq hbs
        obtain ⟨o_b, c_b, rfl, _⟩ := (OwnF.rd (hf := Hop.flen) RB).shape
        go_wp2_with fail
        refine HK.out _ _ ?_
        clear HK K
        have cB := blk2 B6
        refine blkStep (fun K HK => ?_)
        simp only [pick, List.filterMap_cons, List.filterMap_nil, List.getElem?_toArray, List.getElem?_cons_zero]
        go_wp2_with fail
        refine HK.out _ _ ?_
        clear HK K
        clear cB
        have hxe := hx0.trans (hn1.ofCur s.x hgl)
        obtain ⟨wpa, hwa, hba, hca⟩ := two_set B2 (.slice o1 t.ases.length c1) (.slice o2 t.links.length c2)
        have HWa := Lib.hid hwa
        clear hwa
        have ff0 := fr_of B2 0
        have ff1 := fr_of B2 1
        have cb_B2 := blk2 B2
        have cb_B3 := blk3 B3
        have cb_B4 := blk3 B4
        have cb_B6 := blk2 B6
        have cb_B7 := blk3 B7
        refine badStep (by kernel_rfl) (fun K HK => ?_)
        simp only [pick, List.filterMap_cons, List.filterMap_nil, List.getElem?_toArray, List.getElem?_cons_zero, List.getElem?_cons_succ]
        go_wp2_with fail
        refine HK.out _ _ ?_
        clear HK K
        rw [← HWa.out]
        clear HWa ff0 ff1 cb_B2 cb_B3 cb_B4 cb_B6 cb_B7
        replace RA := RA.chg hca (fun k hk e => RA.ne B2 (by decide) (by rw [hk]; exact congrArg some e))
        replace RL := RL.chg hca (fun k hk e => RL.ne B2 (by decide) (by rw [hk]; exact congrArg some e))
        replace RH := RH.chg hca (fun k hk e => RH.ne B2 (by decide) (by rw [hk]; exact congrArg some e))
        replace RB := RB.chg hca (fun k hk e => RB.ne B2 (by decide) (by rw [hk]; exact congrArg some e))
        replace B3 := hca.blkS B3 (by unfold at1; omega)
        replace B4 := hca.blkS B4 (by unfold at1; omega)
        replace B6 := hca.blkS B6 (by unfold at1; omega)
        replace B7 := hca.blkS B7 (by unfold at1; omega)
        replace B2 := hba
        clear hba
        replace hxe := hxe.chg hca (fun i hi => by have h1 : i = w.heap.size := hi; omega)
        clear hca
        obtain ⟨wpb, hwb, hbb, hcb⟩ := three_set B3 (.int .i64 a.ts) (.int .i64 a.beta) (.slice o_a a.hops.length c_a)
        have HWb := Lib.hid hwb
        clear hwb
        have ff0 := fr_of B3 0
        have ff1 := fr_of B3 1
        have ff2 := fr_of B3 2
        have cb_B2 := blk2 B2
        have cb_B3 := blk3 B3
        have cb_B4 := blk3 B4
        have cb_B6 := blk2 B6
        have cb_B7 := blk3 B7
        refine badStep (by kernel_rfl) (fun K HK => ?_)
        simp only [pick, List.filterMap_cons, List.filterMap_nil, List.getElem?_toArray, List.getElem?_cons_zero, List.getElem?_cons_succ]
        go_wp2_with fail
        refine HK.out _ _ ?_
        clear HK K
        rw [← HWb.out]
        clear HWb ff0 ff1 ff2 cb_B2 cb_B3 cb_B4 cb_B6 cb_B7
        replace RA := RA.chg hcb (fun k hk e => RA.ne B3 (by decide) (by rw [hk]; exact congrArg some e))
        replace RL := RL.chg hcb (fun k hk e => RL.ne B3 (by decide) (by rw [hk]; exact congrArg some e))
        replace RH := RH.chg hcb (fun k hk e => RH.ne B3 (by decide) (by rw [hk]; exact congrArg some e))
        replace RB := RB.chg hcb (fun k hk e => RB.ne B3 (by decide) (by rw [hk]; exact congrArg some e))
        replace B2 := hcb.blkS B2 (by unfold at1; omega)
        replace B4 := hcb.blkS B4 (by unfold at1; omega)
        replace B6 := hcb.blkS B6 (by unfold at1; omega)
        replace B7 := hcb.blkS B7 (by unfold at1; omega)
        replace B3 := hbb
        clear hbb
        replace hxe := hxe.chg hcb (fun i hi => by have h1 : i = (w.heap.size + 1) := hi; omega)
        clear hcb
        obtain ⟨wpc, hwc, hbc, hcc⟩ := three_set B4 (.int .i64 b.ts) (.int .i64 b.beta) (.slice o_b b.hops.length c_b)
        have HWc := Lib.hid hwc
        clear hwc
        have ff0 := fr_of B4 0
        have ff1 := fr_of B4 1
        have ff2 := fr_of B4 2
        have cb_B2 := blk2 B2
        have cb_B3 := blk3 B3
        have cb_B4 := blk3 B4
        have cb_B6 := blk2 B6
        have cb_B7 := blk3 B7
        refine badStep (by kernel_rfl) (fun K HK => ?_)
        simp only [pick, List.filterMap_cons, List.filterMap_nil, List.getElem?_toArray, List.getElem?_cons_zero, List.getElem?_cons_succ]
        go_wp2_with fail
        refine HK.out _ _ ?_
        clear HK K
        rw [← HWc.out]
        clear HWc ff0 ff1 ff2 cb_B2 cb_B3 cb_B4 cb_B6 cb_B7
        replace RA := RA.chg hcc (fun k hk e => RA.ne B4 (by decide) (by rw [hk]; exact congrArg some e))
        replace RL := RL.chg hcc (fun k hk e => RL.ne B4 (by decide) (by rw [hk]; exact congrArg some e))
        replace RH := RH.chg hcc (fun k hk e => RH.ne B4 (by decide) (by rw [hk]; exact congrArg some e))
        replace RB := RB.chg hcc (fun k hk e => RB.ne B4 (by decide) (by rw [hk]; exact congrArg some e))
        replace B2 := hcc.blkS B2 (by unfold at1; omega)
        replace B3 := hcc.blkS B3 (by unfold at1; omega)
        replace B6 := hcc.blkS B6 (by unfold at1; omega)
        replace B7 := hcc.blkS B7 (by unfold at1; omega)
        replace B4 := hbc
        clear hbc
        replace hxe := hxe.chg hcc (fun i hi => by have h1 : i = (w.heap.size + 1 + 1) := hi; omega)
        clear hcc
        refine doneStep (by kernel_rfl) ?_
        have cB := blk2 B2
        have cC := blk3 B3
        have cD := blk3 B4
        have hwb := (hx0.trans hn1).size
        go_wp2_with fail
        refine bodyPost_ret (v := .tuple #[.agg #[.slice o1 t.ases.length c1, .slice o2 t.links.length c2], .agg #[.int .i64 a.ts, .int .i64 a.beta, .slice o_a a.hops.length c_a], .agg #[.int .i64 b.ts, .int .i64 b.beta, .slice o_b b.hops.length c_b]]) (by simp [results, Try.results35, go_sem, cB, cC, cD]) rfl ?_
        exact ⟨_, _, _, _, t, kd, 1, a, b, rfl, TK, SD, SE, RA.mono hwb, RL.mono hwb, RH.mono hwb, RB.mono hwb, hxe⟩
    · refine badStep (by kernel_rfl) (fun K HK => ?_)
      simp only [pick, List.filterMap_cons, List.filterMap_nil, List.getElem?_toArray, List.getElem?_cons_zero, List.getElem?_cons_succ]
      go_wp2_with fail
      have hbs := s.x.size
      refine (s_l9Grow g t (.slice o1 t.ases.length c1) (.slice o2 t.links.length c2) 1 _ _ _ s.c TK (St.ofF RA hgw) (St.ofF RL hgw)).mono ?_
      rintro e w13 ⟨vb, b, rfl, SE, RB, hcq, hzq⟩
      replace RB := RB.mono hbs
      replace B2 := hzq.blkS B2 (by unfold at1; omega)
      replace B3 := hzq.blkS B3 (by unfold at1; omega)
      replace B4 := hzq.blkS B4 (by unfold at1; omega)
      replace B6 := hzq.blkS B6 (by unfold at1; omega)
      replace B7 := hzq.blkS B7 (by unfold at1; omega)
      replace RA := RA.at1 hzq hgw
      replace RL := RL.at1 hzq hgw
      replace RH := RH.at1 hzq hgw
      replace s := s.draw hcq hzq
      clear hcq hzq hbs
      obtain ⟨o_b, c_b, rfl, _⟩ := (OwnF.rd (hf := Hop.flen) RB).shape
      go_wp2_with fail
      refine HK.out _ _ ?_
      clear HK K
      have cB := blk2 B6
      refine blkStep (fun K HK => ?_)
      simp only [pick, List.filterMap_cons, List.filterMap_nil, List.getElem?_toArray, List.getElem?_cons_zero]
      go_wp2_with fail
      refine HK.out _ _ ?_
      clear HK K
      clear cB
      refine twoStep ?_ ?_
      · have cB := blk3 B7
        refine oneStep (fun K HK => ?_)
        simp only [pick, List.filterMap_cons, List.filterMap_nil, List.getElem?_toArray, List.getElem?_cons_zero, List.getElem?_cons_succ]
        go_wp2_with fail
        refine HK.out _ _ (Ext.refl _) ?_
        clear HK K cB
        have hxe := hx0.trans (hn1.ofCur s.x hgl)
        obtain ⟨wpa, hwa, hba, hca⟩ := two_set B2 (.slice o1 t.ases.length c1) (.slice o2 t.links.length c2)
        have HWa := Lib.hid hwa
        clear hwa
        have ff0 := fr_of B2 0
        have ff1 := fr_of B2 1
        have cb_B2 := blk2 B2
        have cb_B3 := blk3 B3
        have cb_B4 := blk3 B4
        have cb_B6 := blk2 B6
        have cb_B7 := blk3 B7
        refine badStep (by kernel_rfl) (fun K HK => ?_)
        simp only [pick, List.filterMap_cons, List.filterMap_nil, List.getElem?_toArray, List.getElem?_cons_zero, List.getElem?_cons_succ]
        go_wp2_with fail
        refine HK.out _ _ ?_
        clear HK K
        rw [← HWa.out]
        clear HWa ff0 ff1 cb_B2 cb_B3 cb_B4 cb_B6 cb_B7
        replace RA := RA.chg hca (fun k hk e => RA.ne B2 (by decide) (by rw [hk]; exact congrArg some e))
        replace RL := RL.chg hca (fun k hk e => RL.ne B2 (by decide) (by rw [hk]; exact congrArg some e))
        replace RH := RH.chg hca (fun k hk e => RH.ne B2 (by decide) (by rw [hk]; exact congrArg some e))
        replace RB := RB.chg hca (fun k hk e => RB.ne B2 (by decide) (by rw [hk]; exact congrArg some e))
        replace B3 := hca.blkS B3 (by unfold at1; omega)
        replace B4 := hca.blkS B4 (by unfold at1; omega)
        replace B6 := hca.blkS B6 (by unfold at1; omega)
        replace B7 := hca.blkS B7 (by unfold at1; omega)
        replace B2 := hba
        clear hba
        replace hxe := hxe.chg hca (fun i hi => by have h1 : i = w.heap.size := hi; omega)
        clear hca
        obtain ⟨wpb, hwb, hbb, hcb⟩ := three_set B3 (.int .i64 a.ts) (.int .i64 a.beta) (.slice o_a a.hops.length c_a)
        have HWb := Lib.hid hwb
        clear hwb
        have ff0 := fr_of B3 0
        have ff1 := fr_of B3 1
        have ff2 := fr_of B3 2
        have cb_B2 := blk2 B2
        have cb_B3 := blk3 B3
        have cb_B4 := blk3 B4
        have cb_B6 := blk2 B6
        have cb_B7 := blk3 B7
        refine badStep (by kernel_rfl) (fun K HK => ?_)
        simp only [pick, List.filterMap_cons, List.filterMap_nil, List.getElem?_toArray, List.getElem?_cons_zero, List.getElem?_cons_succ]
        go_wp2_with fail
        refine HK.out _ _ ?_
        clear HK K
        rw [← HWb.out]
        clear HWb ff0 ff1 ff2 cb_B2 cb_B3 cb_B4 cb_B6 cb_B7
        replace RA := RA.chg hcb (fun k hk e => RA.ne B3 (by decide) (by rw [hk]; exact congrArg some e))
        replace RL := RL.chg hcb (fun k hk e => RL.ne B3 (by decide) (by rw [hk]; exact congrArg some e))
        replace RH := RH.chg hcb (fun k hk e => RH.ne B3 (by decide) (by rw [hk]; exact congrArg some e))
        replace RB := RB.chg hcb (fun k hk e => RB.ne B3 (by decide) (by rw [hk]; exact congrArg some e))
        replace B2 := hcb.blkS B2 (by unfold at1; omega)
        replace B4 := hcb.blkS B4 (by unfold at1; omega)
        replace B6 := hcb.blkS B6 (by unfold at1; omega)
        replace B7 := hcb.blkS B7 (by unfold at1; omega)
        replace B3 := hbb
        clear hbb
        replace hxe := hxe.chg hcb (fun i hi => by have h1 : i = (w.heap.size + 1) := hi; omega)
        clear hcb
        obtain ⟨wpc, hwc, hbc, hcc⟩ := three_set B4 (.int .i64 b.ts) (.int .i64 b.beta) (.slice o_b b.hops.length c_b)
        have HWc := Lib.hid hwc
        clear hwc
        have ff0 := fr_of B4 0
        have ff1 := fr_of B4 1
        have ff2 := fr_of B4 2
        have cb_B2 := blk2 B2
        have cb_B3 := blk3 B3
        have cb_B4 := blk3 B4
        have cb_B6 := blk2 B6
        have cb_B7 := blk3 B7
        refine badStep (by kernel_rfl) (fun K HK => ?_)
        simp only [pick, List.filterMap_cons, List.filterMap_nil, List.getElem?_toArray, List.getElem?_cons_zero, List.getElem?_cons_succ]
        go_wp2_with fail
        refine HK.out _ _ ?_
        clear HK K
        rw [← HWc.out]
        clear HWc ff0 ff1 ff2 cb_B2 cb_B3 cb_B4 cb_B6 cb_B7
        replace RA := RA.chg hcc (fun k hk e => RA.ne B4 (by decide) (by rw [hk]; exact congrArg some e))
        replace RL := RL.chg hcc (fun k hk e => RL.ne B4 (by decide) (by rw [hk]; exact congrArg some e))
        replace RH := RH.chg hcc (fun k hk e => RH.ne B4 (by decide) (by rw [hk]; exact congrArg some e))
        replace RB := RB.chg hcc (fun k hk e => RB.ne B4 (by decide) (by rw [hk]; exact congrArg some e))
        replace B2 := hcc.blkS B2 (by unfold at1; omega)
        replace B3 := hcc.blkS B3 (by unfold at1; omega)
        replace B6 := hcc.blkS B6 (by unfold at1; omega)
        replace B7 := hcc.blkS B7 (by unfold at1; omega)
        replace B4 := hbc
        clear hbc
        replace hxe := hxe.chg hcc (fun i hi => by have h1 : i = (w.heap.size + 1 + 1) := hi; omega)
        clear hcc
        refine doneStep (by kernel_rfl) ?_
        have cB := blk2 B2
        have cC := blk3 B3
        have cD := blk3 B4
        have hwb := (hx0.trans hn1).size
        go_wp2_with fail
        refine bodyPost_ret (v := .tuple #[.agg #[.slice o1 t.ases.length c1, .slice o2 t.links.length c2], .agg #[.int .i64 a.ts, .int .i64 a.beta, .slice o_a a.hops.length c_a], .agg #[.int .i64 b.ts, .int .i64 b.beta, .slice o_b b.hops.length c_b]]) (by simp [results, Try.results35, go_sem, cB, cC, cD]) rfl ?_
        exact ⟨_, _, _, _, t, kd, 1, a, b, rfl, TK, SD, SE, RA.mono hwb, RL.mono hwb, RH.mono hwb, RB.mono hwb, hxe⟩
      · have hxe := hx0.trans (hn1.ofCur s.x hgl)
        obtain ⟨wpa, hwa, hba, hca⟩ := two_set B2 (.slice o1 t.ases.length c1) (.slice o2 t.links.length c2)
        have HWa := Lib.hid hwa
        clear hwa
        have ff0 := fr_of B2 0
        have ff1 := fr_of B2 1
        have cb_B2 := blk2 B2
        have cb_B3 := blk3 B3
        have cb_B4 := blk3 B4
        have cb_B6 := blk2 B6
        have cb_B7 := blk3 B7
        refine badStep (by kernel_rfl) (fun K HK => ?_)
        simp only [pick, List.filterMap_cons, List.filterMap_nil, List.getElem?_toArray, List.getElem?_cons_zero, List.getElem?_cons_succ]
        go_wp2_with fail
        refine HK.out _ _ ?_
        clear HK K
        rw [← HWa.out]
        clear HWa ff0 ff1 cb_B2 cb_B3 cb_B4 cb_B6 cb_B7
        replace RA := RA.chg hca (fun k hk e => RA.ne B2 (by decide) (by rw [hk]; exact congrArg some e))
        replace RL := RL.chg hca (fun k hk e => RL.ne B2 (by decide) (by rw [hk]; exact congrArg some e))
        replace RH := RH.chg hca (fun k hk e => RH.ne B2 (by decide) (by rw [hk]; exact congrArg some e))
        replace RB := RB.chg hca (fun k hk e => RB.ne B2 (by decide) (by rw [hk]; exact congrArg some e))
        replace B3 := hca.blkS B3 (by unfold at1; omega)
        replace B4 := hca.blkS B4 (by unfold at1; omega)
        replace B6 := hca.blkS B6 (by unfold at1; omega)
        replace B7 := hca.blkS B7 (by unfold at1; omega)
        replace B2 := hba
        clear hba
        replace hxe := hxe.chg hca (fun i hi => by have h1 : i = w.heap.size := hi; omega)
        clear hca
        have cB := blk3 B7
        refine blkStep (fun K HK => ?_)
        simp only [pick, List.filterMap_cons, List.filterMap_nil, List.getElem?_toArray, List.getElem?_cons_zero, List.getElem?_cons_succ]
        go_wp2_with fail
        refine HK.out _ _ ?_
        clear HK K
        clear cB
        obtain ⟨wpb, hwb, hbb, hcb⟩ := three_set B3 (.int .i64 a.ts) (.int .i64 a.beta) (.slice o_a a.hops.length c_a)
        have HWb := Lib.hid hwb
        clear hwb
        have ff0 := fr_of B3 0
        have ff1 := fr_of B3 1
        have ff2 := fr_of B3 2
        have cb_B2 := blk2 B2
        have cb_B3 := blk3 B3
        have cb_B4 := blk3 B4
        have cb_B6 := blk2 B6
        have cb_B7 := blk3 B7
        refine badStep (by kernel_rfl) (fun K HK => ?_)
        simp only [pick, List.filterMap_cons, List.filterMap_nil, List.getElem?_toArray, List.getElem?_cons_zero, List.getElem?_cons_succ]
        go_wp2_with fail
        refine HK.out _ _ ?_
        clear HK K
        rw [← HWb.out]
        clear HWb ff0 ff1 ff2 cb_B2 cb_B3 cb_B4 cb_B6 cb_B7
        replace RA := RA.chg hcb (fun k hk e => RA.ne B3 (by decide) (by rw [hk]; exact congrArg some e))
        replace RL := RL.chg hcb (fun k hk e => RL.ne B3 (by decide) (by rw [hk]; exact congrArg some e))
        replace RH := RH.chg hcb (fun k hk e => RH.ne B3 (by decide) (by rw [hk]; exact congrArg some e))
        replace RB := RB.chg hcb (fun k hk e => RB.ne B3 (by decide) (by rw [hk]; exact congrArg some e))
        replace B2 := hcb.blkS B2 (by unfold at1; omega)
        replace B4 := hcb.blkS B4 (by unfold at1; omega)
        replace B6 := hcb.blkS B6 (by unfold at1; omega)
        replace B7 := hcb.blkS B7 (by unfold at1; omega)
        replace B3 := hbb
        clear hbb
        replace hxe := hxe.chg hcb (fun i hi => by have h1 : i = (w.heap.size + 1) := hi; omega)
        clear hcb
        obtain ⟨wpc, hwc, hbc, hcc⟩ := three_set B4 (.int .i64 b.ts) (.int .i64 b.beta) (.slice o_b b.hops.length c_b)
        have HWc := Lib.hid hwc
        clear hwc
        have ff0 := fr_of B4 0
        have ff1 := fr_of B4 1
        have ff2 := fr_of B4 2
        have cb_B2 := blk2 B2
        have cb_B3 := blk3 B3
        have cb_B4 := blk3 B4
        have cb_B6 := blk2 B6
        have cb_B7 := blk3 B7
        refine badStep (by kernel_rfl) (fun K HK => ?_)
        simp only [pick, List.filterMap_cons, List.filterMap_nil, List.getElem?_toArray, List.getElem?_cons_zero, List.getElem?_cons_succ]
        go_wp2_with fail
        refine HK.out _ _ ?_
        clear HK K
        rw [← HWc.out]
        clear HWc ff0 ff1 ff2 cb_B2 cb_B3 cb_B4 cb_B6 cb_B7
        replace RA := RA.chg hcc (fun k hk e => RA.ne B4 (by decide) (by rw [hk]; exact congrArg some e))
        replace RL := RL.chg hcc (fun k hk e => RL.ne B4 (by decide) (by rw [hk]; exact congrArg some e))
        replace RH := RH.chg hcc (fun k hk e => RH.ne B4 (by decide) (by rw [hk]; exact congrArg some e))
        replace RB := RB.chg hcc (fun k hk e => RB.ne B4 (by decide) (by rw [hk]; exact congrArg some e))
        replace B2 := hcc.blkS B2 (by unfold at1; omega)
        replace B3 := hcc.blkS B3 (by unfold at1; omega)
        replace B6 := hcc.blkS B6 (by unfold at1; omega)
        replace B7 := hcc.blkS B7 (by unfold at1; omega)
        replace B4 := hbc
        clear hbc
        replace hxe := hxe.chg hcc (fun i hi => by have h1 : i = (w.heap.size + 1 + 1) := hi; omega)
        clear hcc
        refine doneStep (by kernel_rfl) ?_
        have cB := blk2 B2
        have cC := blk3 B3
        have cD := blk3 B4
        have hwb := (hx0.trans hn1).size
        go_wp2_with fail
        refine bodyPost_ret (v := .tuple #[.agg #[.slice o1 t.ases.length c1, .slice o2 t.links.length c2], .agg #[.int .i64 a.ts, .int .i64 a.beta, .slice o_a a.hops.length c_a], .agg #[.int .i64 b.ts, .int .i64 b.beta, .slice o_b b.hops.length c_b]]) (by simp [results, Try.results35, go_sem, cB, cC, cD]) rfl ?_
        exact ⟨_, _, _, _, t, kd, 1, a, b, rfl, TK, SD, SE, RA.mono hwb, RL.mono hwb, RH.mono hwb, RB.mono hwb, hxe⟩

set_option maxRecDepth 100000 in
set_option maxHeartbeats 20000000 in
theorem s_DrawSplice (code : List Int) (cv : Value) (w : World) (hr : RdS Rep.byte w cv code) (hu : ∀ x ∈ code, U8 x) (hl : code.length ≤ 1048576) :
    Calls Try.prog 36 #[cv] w fun e w' => ∃ (va vb : Value) (a b : Seg) (i j : Int), e = .returned (.tuple #[.agg #[.int .i64 a.ts, .int .i64 a.beta, va], .int .i64 i, .agg #[.int .i64 b.ts, .int .i64 b.beta, vb], .int .i64 j]) ∧ a.hops.length ≤ 5 ∧ b.hops.length ≤ 5 ∧ OwnF Hop.f 5 w.heap.size 73 w' va a.hops ∧ OwnF Hop.f 5 w.heap.size 73 w' vb b.hops ∧ Ext w w' := by
  have hx0 := ext2 w (.cells #[.int .i64 0, .int .i64 0, .slice none 0 0] 62) (.cells #[.int .i64 0, .int .i64 0, .slice none 0 0] 62)
  have HB := al2 w (.cells #[.int .i64 0, .int .i64 0, .slice none 0 0] 62) (.cells #[.int .i64 0, .int .i64 0, .slice none 0 0] 62)
  go_enter Try.func36, Try.ntmps36
  go_wp2_with fail
  refine (s_l1New code _ _ (hr.ext hx0) hu hl).mono ?_
  rintro e w1 ⟨g, rfl, hgl, hc1, hn1⟩
  have hgw := hc1.lt
  have s : DSt g cv code w1 w1 := ⟨hc1, Chg.refl _ _, hc1⟩
  have B2 := Ext.block hn1 HB.1
  have B3 := Ext.block hn1 HB.2
  have hg3 : w.heap.size + 1 < g := by simp at hgl; omega
  clear HB hc1
  have cb_B2 := blk3 B2
  have cb_B3 := blk3 B3
  go_wp2_with fail
  clear cb_B2 cb_B3
  have hbs := s.x.size
  refine (s_l9Any g _ _ _ s.c).mono ?_
  rintro e w2 ⟨v1, v2, va, t, a, rfl, TK, ha5, RA, RL, RH, hcq, hzq⟩
  replace RA := RA.mono hbs
  replace RL := RL.mono hbs
  replace RH := RH.mono hbs
  replace B2 := hzq.blkS B2 (by unfold at1; omega)
  replace B3 := hzq.blkS B3 (by unfold at1; omega)
  replace s := s.draw hcq hzq
  clear hcq hzq hbs
  obtain ⟨o1, c1, rfl, _⟩ := (OwnF.rd (hf := ASd.flen) RA).shape
  obtain ⟨o2, c2, rfl, _⟩ := (OwnF.rd (hf := Lnk.flen) RL).shape
  obtain ⟨o_a, c_a, rfl, _⟩ := (OwnF.rd (hf := Hop.flen) RH).shape
  have cb_B2 := blk3 B2
  have cb_B3 := blk3 B3
  go_upto_region 3 with (fail)
  clear cb_B2 cb_B3
  have hxa := ext2 w2 (.cells #[.slice o1 t.ases.length c1, .slice o2 t.links.length c2] 59) (.cells #[.int .i64 a.ts, .int .i64 a.beta, .slice o_a a.hops.length c_a] 62)
  have BB := al2 w2 (.cells #[.slice o1 t.ases.length c1, .slice o2 t.links.length c2] 59) (.cells #[.int .i64 a.ts, .int .i64 a.beta, .slice o_a a.hops.length c_a] 62)
  have ltw_B7 : w1.heap.size ≤ w2.heap.size := s.x.size
  have lt_B2_B7 : w.heap.size < w2.heap.size := blk_lt B2
  have lt_B3_B7 : (w.heap.size + 1) < w2.heap.size := blk_lt B3
  replace B2 := Ext.block hxa B2
  replace B3 := Ext.block hxa B3
  replace RA := RA.ext hxa
  replace RL := RL.ext hxa
  replace RH := RH.ext hxa
  replace s := s.ext hxa
  have B7 := BB.1
  have B8 := BB.2
  obtain ⟨b7, eb7⟩ : ∃ b, b = w2.heap.size := ⟨_, rfl⟩
  rw [← eb7] at B7 B8 ltw_B7 lt_B2_B7 lt_B3_B7 ⊢
  clear hxa BB
  generalize ((w2.alloc (.cells #[.slice o1 t.ases.length c1, .slice o2 t.links.length c2] 59)).alloc (.cells #[.int .i64 a.ts, .int .i64 a.beta, .slice o_a a.hops.length c_a] 62)) = wa at B2 B3 B7 B8 RA RL RH s ⊢
  clear eb7
  clear RA RL TK B7
  have cb_B2 := blk3 B2
  have cb_B3 := blk3 B3
  have cb_B8 := blk3 B8
  go_wp2_with fail
  clear cb_B2 cb_B3 cb_B8
  have hbs := s.x.size
  refine (s_l9Any g _ _ _ s.c).mono ?_
  rintro e w3 ⟨v1, v2, vb, u, b, rfl, TK, hb5, RA, RL, RB, hcq, hzq⟩
  replace RA := RA.mono hbs
  replace RL := RL.mono hbs
  replace RB := RB.mono hbs
  replace B2 := hzq.blkS B2 (by unfold at1; omega)
  replace B3 := hzq.blkS B3 (by unfold at1; omega)
  replace B8 := hzq.blkS B8 (by unfold at1; omega)
  replace RH := RH.at1 hzq hgw
  replace s := s.draw hcq hzq
  clear hcq hzq hbs
  obtain ⟨o1, c1, rfl, _⟩ := (OwnF.rd (hf := ASd.flen) RA).shape
  obtain ⟨o2, c2, rfl, _⟩ := (OwnF.rd (hf := Lnk.flen) RL).shape
  obtain ⟨o_b, c_b, rfl, _⟩ := (OwnF.rd (hf := Hop.flen) RB).shape
  have cb_B2 := blk3 B2
  have cb_B3 := blk3 B3
  have cb_B8 := blk3 B8
  go_upto_region 4 with (fail)
  clear cb_B2 cb_B3 cb_B8
  have hxa := ext2 w3 (.cells #[.slice o1 u.ases.length c1, .slice o2 u.links.length c2] 59) (.cells #[.int .i64 b.ts, .int .i64 b.beta, .slice o_b b.hops.length c_b] 62)
  have BB := al2 w3 (.cells #[.slice o1 u.ases.length c1, .slice o2 u.links.length c2] 59) (.cells #[.int .i64 b.ts, .int .i64 b.beta, .slice o_b b.hops.length c_b] 62)
  have ltw_B9 : w1.heap.size ≤ w3.heap.size := s.x.size
  have lt_B2_B9 : w.heap.size < w3.heap.size := blk_lt B2
  have lt_B3_B9 : (w.heap.size + 1) < w3.heap.size := blk_lt B3
  have lt_B8_B9 : (b7 + 1) < w3.heap.size := blk_lt B8
  replace B2 := Ext.block hxa B2
  replace B3 := Ext.block hxa B3
  replace B8 := Ext.block hxa B8
  replace RH := RH.ext hxa
  replace RA := RA.ext hxa
  replace RL := RL.ext hxa
  replace RB := RB.ext hxa
  replace s := s.ext hxa
  have B9 := BB.1
  have B10 := BB.2
  obtain ⟨b9, eb9⟩ : ∃ b, b = w3.heap.size := ⟨_, rfl⟩
  rw [← eb9] at B9 B10 ltw_B9 lt_B2_B9 lt_B3_B9 lt_B8_B9 ⊢
  clear hxa BB
  generalize ((w3.alloc (.cells #[.slice o1 u.ases.length c1, .slice o2 u.links.length c2] 59)).alloc (.cells #[.int .i64 b.ts, .int .i64 b.beta, .slice o_b b.hops.length c_b] 62)) = wb at B2 B3 B8 B9 B10 RH RA RL RB s ⊢
  clear eb9
  clear RA RL TK B9
  have cb_B2 := blk3 B2
  have cb_B3 := blk3 B3
  have cb_B8 := blk3 B8
  have cb_B10 := blk3 B10
  go_wp2_with fail
  clear cb_B2 cb_B3 cb_B8 cb_B10
  have hbs := s.x.size
  refine (s_l1Below g ((a.hops.length : Int) + 2) _ _ _ s.c).mono ?_
  rintro e w4 ⟨i, rfl, hi0, hi1, hcq, hzq⟩
  replace B2 := hzq.blkS B2 (by unfold at1; omega)
  replace B3 := hzq.blkS B3 (by unfold at1; omega)
  replace B8 := hzq.blkS B8 (by unfold at1; omega)
  replace B10 := hzq.blkS B10 (by unfold at1; omega)
  replace RH := RH.at1 hzq hgw
  replace RB := RB.at1 hzq hgw
  replace s := s.draw hcq hzq
  clear hcq hzq hbs
  have cb_B2 := blk3 B2
  have cb_B3 := blk3 B3
  have cb_B8 := blk3 B8
  have cb_B10 := blk3 B10
  go_upto_region 5 with (fail)
  clear cb_B2 cb_B3 cb_B8 cb_B10
  replace B2 := Ext.block ((Ext.refl w4).drew) B2
  replace B3 := Ext.block ((Ext.refl w4).drew) B3
  replace B8 := Ext.block ((Ext.refl w4).drew) B8
  replace B10 := Ext.block ((Ext.refl w4).drew) B10
  replace RH := RH.ext ((Ext.refl w4).drew)
  replace RB := RB.ext ((Ext.refl w4).drew)
  replace s := s.ext ((Ext.refl w4).drew)
  refine planStep (.blk [1, 3, 4, 5, 6, 7] (.tri 0 2 8 (.two 2 8 (.one 8 (.blk [9] (.one 10 (.blk [11] (.one 12 (.blk [13] .done)))))) (.blk [9] (.two 2 10 (.one 10 (.blk [11] (.one 12 (.blk [13] .done)))) (.blk [2, 11] (.one 12 (.blk [13] .done)))))) (.two 0 8 (.one 8 (.blk [9] (.one 10 (.blk [11] (.one 12 (.blk [13] .done)))))) (.blk [0, 9] (.one 10 (.blk [11] (.one 12 (.blk [13] .done)))))) (.blk [0, 9] (.two 2 10 (.one 10 (.blk [11] (.one 12 (.blk [13] .done)))) (.blk [2, 11] (.one 12 (.blk [13] .done))))))) [8, 10, 12] (by kernel_rfl) (by kernel_rfl) ?_
  generalize w4.drew = wdd at B2 B3 B8 B10 RH RB s ⊢
  have cB := blk3 B10
  refine blkStep (fun K HK => ?_)
  simp only [pick, List.filterMap_cons, List.filterMap_nil, List.getElem?_toArray, List.getElem?_cons_zero, List.getElem?_cons_succ]
  go_wp2_with fail
  refine HK.out _ _ ?_
  clear HK K
  clear cB
  refine triStep ?_ ?_ ?_
  · have cB := blk3 B8
    refine oneStep (fun K HK => ?_)
    simp only [pick, List.filterMap_cons, List.filterMap_nil, List.getElem?_toArray, List.getElem?_cons_zero]
    go_wp2_with fail
    refine HK.out _ _ (Ext.refl _) ?_
    clear HK K cB
    refine twoStep ?_ ?_
    · have cB := blk3 B10
      refine oneStep (fun K HK => ?_)
      simp only [pick, List.filterMap_cons, List.filterMap_nil, List.getElem?_toArray, List.getElem?_cons_zero, List.getElem?_cons_succ]
      go_wp2_with fail
      refine HK.out _ _ (Ext.refl _) ?_
      clear HK K cB
      refine badStep (by kernel_rfl) (fun K HK => ?_)
      simp only [pick, List.filterMap_cons, List.filterMap_nil, List.getElem?_toArray, List.getElem?_cons_zero, List.getElem?_cons_succ]
      go_wp2_with fail
      have hbs := s.x.size
      refine (s_l1Below g ((b.hops.length : Int) + 2) _ _ _ s.c).mono ?_
      rintro e w5 ⟨j, rfl, hj0, hj1, hcq, hzq⟩
      replace B2 := hzq.blkS B2 (by unfold at1; omega)
      replace B3 := hzq.blkS B3 (by unfold at1; omega)
      replace B8 := hzq.blkS B8 (by unfold at1; omega)
      replace B10 := hzq.blkS B10 (by unfold at1; omega)
      replace RH := RH.at1 hzq hgw
      replace RB := RB.at1 hzq hgw
      replace s := s.draw hcq hzq
      clear hcq hzq hbs
      go_wp2_with fail
      refine HK.out _ _ ?_
      clear HK K
      have cB := blk3 B10
      refine blkStep (fun K HK => ?_)
      simp only [pick, List.filterMap_cons, List.filterMap_nil, List.getElem?_toArray, List.getElem?_cons_zero, List.getElem?_cons_succ]
      go_wp2_with fail
      refine HK.out _ _ ?_
      clear HK K
      clear cB
      have hxe := hx0.trans (hn1.ofCur s.x hgl)
      obtain ⟨wpa, hwa, hba, hca⟩ := three_set B2 (.int .i64 a.ts) (.int .i64 a.beta) (.slice o_a a.hops.length c_a)
      have HWa := Lib.hid hwa
      clear hwa
      have ff0 := fr_of B2 0
      have ff1 := fr_of B2 1
      have ff2 := fr_of B2 2
      have cb_B2 := blk3 B2
      have cb_B3 := blk3 B3
      have cb_B8 := blk3 B8
      have cb_B10 := blk3 B10
      refine badStep (by kernel_rfl) (fun K HK => ?_)
      simp only [pick, List.filterMap_cons, List.filterMap_nil, List.getElem?_toArray, List.getElem?_cons_zero, List.getElem?_cons_succ]
      go_wp2_with fail
      refine HK.out _ _ ?_
      clear HK K
      rw [← HWa.out]
      clear HWa ff0 ff1 ff2 cb_B2 cb_B3 cb_B8 cb_B10
      replace RH := RH.chg hca (fun k hk e => RH.ne B2 (by decide) (by rw [hk]; exact congrArg some e))
      replace RB := RB.chg hca (fun k hk e => RB.ne B2 (by decide) (by rw [hk]; exact congrArg some e))
      replace B3 := hca.blkS B3 (by unfold at1; omega)
      replace B8 := hca.blkS B8 (by unfold at1; omega)
      replace B10 := hca.blkS B10 (by unfold at1; omega)
      replace B2 := hba
      clear hba
      replace hxe := hxe.chg hca (fun i hi => by have h1 : i = w.heap.size := hi; omega)
      clear hca
      have cB := blk3 B10
      refine blkStep (fun K HK => ?_)
      simp only [pick, List.filterMap_cons, List.filterMap_nil, List.getElem?_toArray, List.getElem?_cons_zero, List.getElem?_cons_succ]
      go_wp2_with fail
      refine HK.out _ _ ?_
      clear HK K
      clear cB
      obtain ⟨wpb, hwb, hbb, hcb⟩ := three_set B3 (.int .i64 b.ts) (.int .i64 b.beta) (.slice o_b b.hops.length c_b)
      have HWb := Lib.hid hwb
      clear hwb
      have ff0 := fr_of B3 0
      have ff1 := fr_of B3 1
      have ff2 := fr_of B3 2
      have cb_B2 := blk3 B2
      have cb_B3 := blk3 B3
      have cb_B8 := blk3 B8
      have cb_B10 := blk3 B10
      refine badStep (by kernel_rfl) (fun K HK => ?_)
      simp only [pick, List.filterMap_cons, List.filterMap_nil, List.getElem?_toArray, List.getElem?_cons_zero, List.getElem?_cons_succ]
      go_wp2_with fail
      refine HK.out _ _ ?_
      clear HK K
      rw [← HWb.out]
      clear HWb ff0 ff1 ff2 cb_B2 cb_B3 cb_B8 cb_B10
      replace RH := RH.chg hcb (fun k hk e => RH.ne B3 (by decide) (by rw [hk]; exact congrArg some e))
      replace RB := RB.chg hcb (fun k hk e => RB.ne B3 (by decide) (by rw [hk]; exact congrArg some e))
      replace B2 := hcb.blkS B2 (by unfold at1; omega)
      replace B8 := hcb.blkS B8 (by unfold at1; omega)
      replace B10 := hcb.blkS B10 (by unfold at1; omega)
      replace B3 := hbb
      clear hbb
      replace hxe := hxe.chg hcb (fun i hi => by have h1 : i = (w.heap.size + 1) := hi; omega)
      clear hcb
      have cB := blk3 B10
      refine blkStep (fun K HK => ?_)
      simp only [pick, List.filterMap_cons, List.filterMap_nil, List.getElem?_toArray, List.getElem?_cons_zero, List.getElem?_cons_succ]
      go_wp2_with fail
      refine HK.out _ _ ?_
      clear HK K
      clear cB
      refine doneStep (by kernel_rfl) ?_
      have cB := blk3 B2
      have cC := blk3 B3
      have hwb := (hx0.trans hn1).size
      go_wp2_with fail
      refine bodyPost_ret (v := .tuple #[.agg #[.int .i64 a.ts, .int .i64 a.beta, .slice o_a a.hops.length c_a], .int .i64 i, .agg #[.int .i64 b.ts, .int .i64 b.beta, .slice o_b b.hops.length c_b], .int .i64 (j - 1)]) (by simp [results, Try.results36, go_sem, cB, cC]) rfl ?_
      exact ⟨_, _, a, b, i, j - 1, rfl, ha5, hb5, RH.mono hwb, RB.mono hwb, hxe⟩
    · refine badStep (by kernel_rfl) (fun K HK => ?_)
      simp only [pick, List.filterMap_cons, List.filterMap_nil, List.getElem?_toArray, List.getElem?_cons_zero, List.getElem?_cons_succ]
      go_wp2_with fail
      have hbs := s.x.size
      refine (s_l1Below g ((b.hops.length : Int) + 2) _ _ _ s.c).mono ?_
      rintro e w6 ⟨j, rfl, hj0, hj1, hcq, hzq⟩
      replace B2 := hzq.blkS B2 (by unfold at1; omega)
      replace B3 := hzq.blkS B3 (by unfold at1; omega)
      replace B8 := hzq.blkS B8 (by unfold at1; omega)
      replace B10 := hzq.blkS B10 (by unfold at1; omega)
      replace RH := RH.at1 hzq hgw
      replace RB := RB.at1 hzq hgw
      replace s := s.draw hcq hzq
      clear hcq hzq hbs
      go_wp2_with fail
      refine HK.out _ _ ?_
      clear HK K
      have cB := blk3 B10
      refine blkStep (fun K HK => ?_)
      simp only [pick, List.filterMap_cons, List.filterMap_nil, List.getElem?_toArray, List.getElem?_cons_zero, List.getElem?_cons_succ]
      go_wp2_with fail
      refine HK.out _ _ ?_
      clear HK K
      clear cB
      refine twoStep ?_ ?_
      · have cB := blk3 B10
        refine oneStep (fun K HK => ?_)
        simp only [pick, List.filterMap_cons, List.filterMap_nil, List.getElem?_toArray, List.getElem?_cons_zero, List.getElem?_cons_succ]
        go_wp2_with fail
        refine HK.out _ _ (Ext.refl _) ?_
        clear HK K cB
        have hxe := hx0.trans (hn1.ofCur s.x hgl)
        obtain ⟨wpa, hwa, hba, hca⟩ := three_set B2 (.int .i64 a.ts) (.int .i64 a.beta) (.slice o_a a.hops.length c_a)
        have HWa := Lib.hid hwa
        clear hwa
        have ff0 := fr_of B2 0
        have ff1 := fr_of B2 1
        have ff2 := fr_of B2 2
        have cb_B2 := blk3 B2
        have cb_B3 := blk3 B3
        have cb_B8 := blk3 B8
        have cb_B10 := blk3 B10
        refine badStep (by kernel_rfl) (fun K HK => ?_)
        simp only [pick, List.filterMap_cons, List.filterMap_nil, List.getElem?_toArray, List.getElem?_cons_zero, List.getElem?_cons_succ]
        go_wp2_with fail
        refine HK.out _ _ ?_
        clear HK K
        rw [← HWa.out]
        clear HWa ff0 ff1 ff2 cb_B2 cb_B3 cb_B8 cb_B10
        replace RH := RH.chg hca (fun k hk e => RH.ne B2 (by decide) (by rw [hk]; exact congrArg some e))
        replace RB := RB.chg hca (fun k hk e => RB.ne B2 (by decide) (by rw [hk]; exact congrArg some e))
        replace B3 := hca.blkS B3 (by unfold at1; omega)
        replace B8 := hca.blkS B8 (by unfold at1; omega)
        replace B10 := hca.blkS B10 (by unfold at1; omega)
        replace B2 := hba
        clear hba
        replace hxe := hxe.chg hca (fun i hi => by have h1 : i = w.heap.size := hi; omega)
        clear hca
        have cB := blk3 B10
        refine blkStep (fun K HK => ?_)
        simp only [pick, List.filterMap_cons, List.filterMap_nil, List.getElem?_toArray, List.getElem?_cons_zero, List.getElem?_cons_succ]
        go_wp2_with fail
        refine HK.out _ _ ?_
        clear HK K
        clear cB
        obtain ⟨wpb, hwb, hbb, hcb⟩ := three_set B3 (.int .i64 b.ts) (.int .i64 b.beta) (.slice o_b b.hops.length c_b)
        have HWb := Lib.hid hwb
        clear hwb
        have ff0 := fr_of B3 0
        have ff1 := fr_of B3 1
        have ff2 := fr_of B3 2
        have cb_B2 := blk3 B2
        have cb_B3 := blk3 B3
        have cb_B8 := blk3 B8
        have cb_B10 := blk3 B10
        refine badStep (by kernel_rfl) (fun K HK => ?_)
        simp only [pick, List.filterMap_cons, List.filterMap_nil, List.getElem?_toArray, List.getElem?_cons_zero, List.getElem?_cons_succ]
        go_wp2_with fail
        refine HK.out _ _ ?_
        clear HK K
        rw [← HWb.out]
        clear HWb ff0 ff1 ff2 cb_B2 cb_B3 cb_B8 cb_B10
        replace RH := RH.chg hcb (fun k hk e => RH.ne B3 (by decide) (by rw [hk]; exact congrArg some e))
        replace RB := RB.chg hcb (fun k hk e => RB.ne B3 (by decide) (by rw [hk]; exact congrArg some e))
        replace B2 := hcb.blkS B2 (by unfold at1; omega)
        replace B8 := hcb.blkS B8 (by unfold at1; omega)
        replace B10 := hcb.blkS B10 (by unfold at1; omega)
        replace B3 := hbb
        clear hbb
        replace hxe := hxe.chg hcb (fun i hi => by have h1 : i = (w.heap.size + 1) := hi; omega)
        clear hcb
        have cB := blk3 B10
        refine blkStep (fun K HK => ?_)
        simp only [pick, List.filterMap_cons, List.filterMap_nil, List.getElem?_toArray, List.getElem?_cons_zero, List.getElem?_cons_succ]
        go_wp2_with fail
        refine HK.out _ _ ?_
        clear HK K
        clear cB
        refine doneStep (by kernel_rfl) ?_
        have cB := blk3 B2
        have cC := blk3 B3
        have hwb := (hx0.trans hn1).size
        go_wp2_with fail
        refine bodyPost_ret (v := .tuple #[.agg #[.int .i64 a.ts, .int .i64 a.beta, .slice o_a a.hops.length c_a], .int .i64 i, .agg #[.int .i64 b.ts, .int .i64 b.beta, .slice o_b b.hops.length c_b], .int .i64 (j - 1)]) (by simp [results, Try.results36, go_sem, cB, cC]) rfl ?_
        exact ⟨_, _, a, b, i, j - 1, rfl, ha5, hb5, RH.mono hwb, RB.mono hwb, hxe⟩
      · have hxe := hx0.trans (hn1.ofCur s.x hgl)
        obtain ⟨wpa, hwa, hba, hca⟩ := three_set B2 (.int .i64 a.ts) (.int .i64 a.beta) (.slice o_a a.hops.length c_a)
        have HWa := Lib.hid hwa
        clear hwa
        have ff0 := fr_of B2 0
        have ff1 := fr_of B2 1
        have ff2 := fr_of B2 2
        have cb_B2 := blk3 B2
        have cb_B3 := blk3 B3
        have cb_B8 := blk3 B8
        have cb_B10 := blk3 B10
        refine badStep (by kernel_rfl) (fun K HK => ?_)
        simp only [pick, List.filterMap_cons, List.filterMap_nil, List.getElem?_toArray, List.getElem?_cons_zero, List.getElem?_cons_succ]
        go_wp2_with fail
        refine HK.out _ _ ?_
        clear HK K
        rw [← HWa.out]
        clear HWa ff0 ff1 ff2 cb_B2 cb_B3 cb_B8 cb_B10
        replace RH := RH.chg hca (fun k hk e => RH.ne B2 (by decide) (by rw [hk]; exact congrArg some e))
        replace RB := RB.chg hca (fun k hk e => RB.ne B2 (by decide) (by rw [hk]; exact congrArg some e))
        replace B3 := hca.blkS B3 (by unfold at1; omega)
        replace B8 := hca.blkS B8 (by unfold at1; omega)
        replace B10 := hca.blkS B10 (by unfold at1; omega)
        replace B2 := hba
        clear hba
        replace hxe := hxe.chg hca (fun i hi => by have h1 : i = w.heap.size := hi; omega)
        clear hca
        have cB := blk3 B10
        refine blkStep (fun K HK => ?_)
        simp only [pick, List.filterMap_cons, List.filterMap_nil, List.getElem?_toArray, List.getElem?_cons_zero, List.getElem?_cons_succ]
        go_wp2_with fail
        refine HK.out _ _ ?_
        clear HK K
        clear cB
        obtain ⟨wpb, hwb, hbb, hcb⟩ := three_set B3 (.int .i64 b.ts) (.int .i64 b.beta) (.slice o_b b.hops.length c_b)
        have HWb := Lib.hid hwb
        clear hwb
        have ff0 := fr_of B3 0
        have ff1 := fr_of B3 1
        have ff2 := fr_of B3 2
        have cb_B2 := blk3 B2
        have cb_B3 := blk3 B3
        have cb_B8 := blk3 B8
        have cb_B10 := blk3 B10
        refine badStep (by kernel_rfl) (fun K HK => ?_)
        simp only [pick, List.filterMap_cons, List.filterMap_nil, List.getElem?_toArray, List.getElem?_cons_zero, List.getElem?_cons_succ]
        go_wp2_with fail
        refine HK.out _ _ ?_
        clear HK K
        rw [← HWb.out]
        clear HWb ff0 ff1 ff2 cb_B2 cb_B3 cb_B8 cb_B10
        replace RH := RH.chg hcb (fun k hk e => RH.ne B3 (by decide) (by rw [hk]; exact congrArg some e))
        replace RB := RB.chg hcb (fun k hk e => RB.ne B3 (by decide) (by rw [hk]; exact congrArg some e))
        replace B2 := hcb.blkS B2 (by unfold at1; omega)
        replace B8 := hcb.blkS B8 (by unfold at1; omega)
        replace B10 := hcb.blkS B10 (by unfold at1; omega)
        replace B3 := hbb
        clear hbb
        replace hxe := hxe.chg hcb (fun i hi => by have h1 : i = (w.heap.size + 1) := hi; omega)
        clear hcb
        have cB := blk3 B10
        refine blkStep (fun K HK => ?_)
        simp only [pick, List.filterMap_cons, List.filterMap_nil, List.getElem?_toArray, List.getElem?_cons_zero, List.getElem?_cons_succ]
        go_wp2_with fail
        refine HK.out _ _ ?_
        clear HK K
        clear cB
        refine doneStep (by kernel_rfl) ?_
        have cB := blk3 B2
        have cC := blk3 B3
        have hwb := (hx0.trans hn1).size
        go_wp2_with fail
        refine bodyPost_ret (v := .tuple #[.agg #[.int .i64 a.ts, .int .i64 a.beta, .slice o_a a.hops.length c_a], .int .i64 i, .agg #[.int .i64 b.ts, .int .i64 b.beta, .slice o_b b.hops.length c_b], .int .i64 (j - 1)]) (by simp [results, Try.results36, go_sem, cB, cC]) rfl ?_
        exact ⟨_, _, a, b, i, j - 1, rfl, ha5, hb5, RH.mono hwb, RB.mono hwb, hxe⟩
  · have cB := blk3 B10
    refine oneStep (fun K HK => ?_)
    simp only [pick, List.filterMap_cons, List.filterMap_nil, List.getElem?_toArray, List.getElem?_cons_zero, List.getElem?_cons_succ]
    go_wp2_with fail
    refine HK.out _ _ (Ext.refl _) ?_
    clear HK K cB
    refine twoStep ?_ ?_
    · have cB := blk3 B8
      refine oneStep (fun K HK => ?_)
      simp only [pick, List.filterMap_cons, List.filterMap_nil, List.getElem?_toArray, List.getElem?_cons_zero]
      go_wp2_with fail
      refine HK.out _ _ (Ext.refl _) ?_
      clear HK K cB
      refine badStep (by kernel_rfl) (fun K HK => ?_)
      simp only [pick, List.filterMap_cons, List.filterMap_nil, List.getElem?_toArray, List.getElem?_cons_zero, List.getElem?_cons_succ]
      go_wp2_with fail
      have hbs := s.x.size
      refine (s_l1Below g ((b.hops.length : Int) + 2) _ _ _ s.c).mono ?_
      rintro e w7 ⟨j, rfl, hj0, hj1, hcq, hzq⟩
      replace B2 := hzq.blkS B2 (by unfold at1; omega)
      replace B3 := hzq.blkS B3 (by unfold at1; omega)
      replace B8 := hzq.blkS B8 (by unfold at1; omega)
      replace B10 := hzq.blkS B10 (by unfold at1; omega)
      replace RH := RH.at1 hzq hgw
      replace RB := RB.at1 hzq hgw
      replace s := s.draw hcq hzq
      clear hcq hzq hbs
      go_wp2_with fail
      refine HK.out _ _ ?_
      clear HK K
      have cB := blk3 B10
      refine blkStep (fun K HK => ?_)
      simp only [pick, List.filterMap_cons, List.filterMap_nil, List.getElem?_toArray, List.getElem?_cons_zero, List.getElem?_cons_succ]
      go_wp2_with fail
      refine HK.out _ _ ?_
      clear HK K
      clear cB
      have hxe := hx0.trans (hn1.ofCur s.x hgl)
      obtain ⟨wpa, hwa, hba, hca⟩ := three_set B2 (.int .i64 a.ts) (.int .i64 a.beta) (.slice o_a a.hops.length c_a)
      have HWa := Lib.hid hwa
      clear hwa
      have ff0 := fr_of B2 0
      have ff1 := fr_of B2 1
      have ff2 := fr_of B2 2
      have cb_B2 := blk3 B2
      have cb_B3 := blk3 B3
      have cb_B8 := blk3 B8
      have cb_B10 := blk3 B10
      refine badStep (by kernel_rfl) (fun K HK => ?_)
      simp only [pick, List.filterMap_cons, List.filterMap_nil, List.getElem?_toArray, List.getElem?_cons_zero, List.getElem?_cons_succ]
      go_wp2_with fail
      refine HK.out _ _ ?_
      clear HK K
      rw [← HWa.out]
      clear HWa ff0 ff1 ff2 cb_B2 cb_B3 cb_B8 cb_B10
      replace RH := RH.chg hca (fun k hk e => RH.ne B2 (by decide) (by rw [hk]; exact congrArg some e))
      replace RB := RB.chg hca (fun k hk e => RB.ne B2 (by decide) (by rw [hk]; exact congrArg some e))
      replace B3 := hca.blkS B3 (by unfold at1; omega)
      replace B8 := hca.blkS B8 (by unfold at1; omega)
      replace B10 := hca.blkS B10 (by unfold at1; omega)
      replace B2 := hba
      clear hba
      replace hxe := hxe.chg hca (fun i hi => by have h1 : i = w.heap.size := hi; omega)
      clear hca
      have cB := blk3 B10
      refine blkStep (fun K HK => ?_)
      simp only [pick, List.filterMap_cons, List.filterMap_nil, List.getElem?_toArray, List.getElem?_cons_zero, List.getElem?_cons_succ]
      go_wp2_with fail
      refine HK.out _ _ ?_
      clear HK K
      clear cB
      obtain ⟨wpb, hwb, hbb, hcb⟩ := three_set B3 (.int .i64 b.ts) (.int .i64 b.beta) (.slice o_b b.hops.length c_b)
      have HWb := Lib.hid hwb
      clear hwb
      have ff0 := fr_of B3 0
      have ff1 := fr_of B3 1
      have ff2 := fr_of B3 2
      have cb_B2 := blk3 B2
      have cb_B3 := blk3 B3
      have cb_B8 := blk3 B8
      have cb_B10 := blk3 B10
      refine badStep (by kernel_rfl) (fun K HK => ?_)
      simp only [pick, List.filterMap_cons, List.filterMap_nil, List.getElem?_toArray, List.getElem?_cons_zero, List.getElem?_cons_succ]
      go_wp2_with fail
      refine HK.out _ _ ?_
      clear HK K
      rw [← HWb.out]
      clear HWb ff0 ff1 ff2 cb_B2 cb_B3 cb_B8 cb_B10
      replace RH := RH.chg hcb (fun k hk e => RH.ne B3 (by decide) (by rw [hk]; exact congrArg some e))
      replace RB := RB.chg hcb (fun k hk e => RB.ne B3 (by decide) (by rw [hk]; exact congrArg some e))
      replace B2 := hcb.blkS B2 (by unfold at1; omega)
      replace B8 := hcb.blkS B8 (by unfold at1; omega)
      replace B10 := hcb.blkS B10 (by unfold at1; omega)
      replace B3 := hbb
      clear hbb
      replace hxe := hxe.chg hcb (fun i hi => by have h1 : i = (w.heap.size + 1) := hi; omega)
      clear hcb
      have cB := blk3 B10
      refine blkStep (fun K HK => ?_)
      simp only [pick, List.filterMap_cons, List.filterMap_nil, List.getElem?_toArray, List.getElem?_cons_zero, List.getElem?_cons_succ]
      go_wp2_with fail
      refine HK.out _ _ ?_
      clear HK K
      clear cB
      refine doneStep (by kernel_rfl) ?_
      have cB := blk3 B2
      have cC := blk3 B3
      have hwb := (hx0.trans hn1).size
      go_wp2_with fail
      refine bodyPost_ret (v := .tuple #[.agg #[.int .i64 a.ts, .int .i64 a.beta, .slice o_a a.hops.length c_a], .int .i64 i, .agg #[.int .i64 b.ts, .int .i64 b.beta, .slice o_b b.hops.length c_b], .int .i64 (j - 1)]) (by simp [results, Try.results36, go_sem, cB, cC]) rfl ?_
      exact ⟨_, _, a, b, i, j - 1, rfl, ha5, hb5, RH.mono hwb, RB.mono hwb, hxe⟩
    · refine badStep (by kernel_rfl) (fun K HK => ?_)
      simp only [pick, List.filterMap_cons, List.filterMap_nil, List.getElem?_toArray, List.getElem?_cons_zero, List.getElem?_cons_succ]
      go_wp2_with fail
      have hbs := s.x.size
      refine (s_l1Below g ((b.hops.length : Int) + 2) _ _ _ s.c).mono ?_
      rintro e w8 ⟨j, rfl, hj0, hj1, hcq, hzq⟩
      replace B2 := hzq.blkS B2 (by unfold at1; omega)
      replace B3 := hzq.blkS B3 (by unfold at1; omega)
      replace B8 := hzq.blkS B8 (by unfold at1; omega)
      replace B10 := hzq.blkS B10 (by unfold at1; omega)
      replace RH := RH.at1 hzq hgw
      replace RB := RB.at1 hzq hgw
      replace s := s.draw hcq hzq
      clear hcq hzq hbs
      go_wp2_with fail
      refine HK.out _ _ ?_
      clear HK K
      have cB := blk3 B8
      refine blkStep (fun K HK => ?_)
      simp only [pick, List.filterMap_cons, List.filterMap_nil, List.getElem?_toArray, List.getElem?_cons_zero, List.getElem?_cons_succ]
      go_wp2_with fail
      refine HK.out _ _ ?_
      clear HK K
      clear cB
      have hxe := hx0.trans (hn1.ofCur s.x hgl)
      obtain ⟨wpa, hwa, hba, hca⟩ := three_set B2 (.int .i64 a.ts) (.int .i64 a.beta) (.slice o_a a.hops.length c_a)
      have HWa := Lib.hid hwa
      clear hwa
      have ff0 := fr_of B2 0
      have ff1 := fr_of B2 1
      have ff2 := fr_of B2 2
      have cb_B2 := blk3 B2
      have cb_B3 := blk3 B3
      have cb_B8 := blk3 B8
      have cb_B10 := blk3 B10
      refine badStep (by kernel_rfl) (fun K HK => ?_)
      simp only [pick, List.filterMap_cons, List.filterMap_nil, List.getElem?_toArray, List.getElem?_cons_zero, List.getElem?_cons_succ]
      go_wp2_with fail
      refine HK.out _ _ ?_
      clear HK K
      rw [← HWa.out]
      clear HWa ff0 ff1 ff2 cb_B2 cb_B3 cb_B8 cb_B10
      replace RH := RH.chg hca (fun k hk e => RH.ne B2 (by decide) (by rw [hk]; exact congrArg some e))
      replace RB := RB.chg hca (fun k hk e => RB.ne B2 (by decide) (by rw [hk]; exact congrArg some e))
      replace B3 := hca.blkS B3 (by unfold at1; omega)
      replace B8 := hca.blkS B8 (by unfold at1; omega)
      replace B10 := hca.blkS B10 (by unfold at1; omega)
      replace B2 := hba
      clear hba
      replace hxe := hxe.chg hca (fun i hi => by have h1 : i = w.heap.size := hi; omega)
      clear hca
      have cB := blk3 B10
      refine blkStep (fun K HK => ?_)
      simp only [pick, List.filterMap_cons, List.filterMap_nil, List.getElem?_toArray, List.getElem?_cons_zero, List.getElem?_cons_succ]
      go_wp2_with fail
      refine HK.out _ _ ?_
      clear HK K
      clear cB
      obtain ⟨wpb, hwb, hbb, hcb⟩ := three_set B3 (.int .i64 b.ts) (.int .i64 b.beta) (.slice o_b b.hops.length c_b)
      have HWb := Lib.hid hwb
      clear hwb
      have ff0 := fr_of B3 0
      have ff1 := fr_of B3 1
      have ff2 := fr_of B3 2
      have cb_B2 := blk3 B2
      have cb_B3 := blk3 B3
      have cb_B8 := blk3 B8
      have cb_B10 := blk3 B10
      refine badStep (by kernel_rfl) (fun K HK => ?_)
      simp only [pick, List.filterMap_cons, List.filterMap_nil, List.getElem?_toArray, List.getElem?_cons_zero, List.getElem?_cons_succ]
      go_wp2_with fail
      refine HK.out _ _ ?_
      clear HK K
      rw [← HWb.out]
      clear HWb ff0 ff1 ff2 cb_B2 cb_B3 cb_B8 cb_B10
      replace RH := RH.chg hcb (fun k hk e => RH.ne B3 (by decide) (by rw [hk]; exact congrArg some e))
      replace RB := RB.chg hcb (fun k hk e => RB.ne B3 (by decide) (by rw [hk]; exact congrArg some e))
      replace B2 := hcb.blkS B2 (by unfold at1; omega)
      replace B8 := hcb.blkS B8 (by unfold at1; omega)
      replace B10 := hcb.blkS B10 (by unfold at1; omega)
      replace B3 := hbb
      clear hbb
      replace hxe := hxe.chg hcb (fun i hi => by have h1 : i = (w.heap.size + 1) := hi; omega)
      clear hcb
      have cB := blk3 B10
      refine blkStep (fun K HK => ?_)
      simp only [pick, List.filterMap_cons, List.filterMap_nil, List.getElem?_toArray, List.getElem?_cons_zero, List.getElem?_cons_succ]
      go_wp2_with fail
      refine HK.out _ _ ?_
      clear HK K
      clear cB
      refine doneStep (by kernel_rfl) ?_
      have cB := blk3 B2
      have cC := blk3 B3
      have hwb := (hx0.trans hn1).size
      go_wp2_with fail
      refine bodyPost_ret (v := .tuple #[.agg #[.int .i64 a.ts, .int .i64 a.beta, .slice o_a a.hops.length c_a], .int .i64 i, .agg #[.int .i64 b.ts, .int .i64 b.beta, .slice o_b b.hops.length c_b], .int .i64 (j - 1)]) (by simp [results, Try.results36, go_sem, cB, cC]) rfl ?_
      exact ⟨_, _, a, b, i, j - 1, rfl, ha5, hb5, RH.mono hwb, RB.mono hwb, hxe⟩
  · refine badStep (by kernel_rfl) (fun K HK => ?_)
    simp only [pick, List.filterMap_cons, List.filterMap_nil, List.getElem?_toArray, List.getElem?_cons_zero, List.getElem?_cons_succ]
    go_wp2_with fail
    have hbs := s.x.size
    refine (s_l1Below g ((b.hops.length : Int) + 2) _ _ _ s.c).mono ?_
    rintro e w9 ⟨j, rfl, hj0, hj1, hcq, hzq⟩
    replace B2 := hzq.blkS B2 (by unfold at1; omega)
    replace B3 := hzq.blkS B3 (by unfold at1; omega)
    replace B8 := hzq.blkS B8 (by unfold at1; omega)
    replace B10 := hzq.blkS B10 (by unfold at1; omega)
    replace RH := RH.at1 hzq hgw
    replace RB := RB.at1 hzq hgw
    replace s := s.draw hcq hzq
    clear hcq hzq hbs
    go_wp2_with fail
    refine HK.out _ _ ?_
    clear HK K
    have cB := blk3 B8
    refine blkStep (fun K HK => ?_)
    simp only [pick, List.filterMap_cons, List.filterMap_nil, List.getElem?_toArray, List.getElem?_cons_zero, List.getElem?_cons_succ]
    go_wp2_with fail
    refine HK.out _ _ ?_
    clear HK K
    clear cB
    refine twoStep ?_ ?_
    · have cB := blk3 B10
      refine oneStep (fun K HK => ?_)
      simp only [pick, List.filterMap_cons, List.filterMap_nil, List.getElem?_toArray, List.getElem?_cons_zero, List.getElem?_cons_succ]
      go_wp2_with fail
      refine HK.out _ _ (Ext.refl _) ?_
      clear HK K cB
      have hxe := hx0.trans (hn1.ofCur s.x hgl)
      obtain ⟨wpa, hwa, hba, hca⟩ := three_set B2 (.int .i64 a.ts) (.int .i64 a.beta) (.slice o_a a.hops.length c_a)
      have HWa := Lib.hid hwa
      clear hwa
      have ff0 := fr_of B2 0
      have ff1 := fr_of B2 1
      have ff2 := fr_of B2 2
      have cb_B2 := blk3 B2
      have cb_B3 := blk3 B3
      have cb_B8 := blk3 B8
      have cb_B10 := blk3 B10
      refine badStep (by kernel_rfl) (fun K HK => ?_)
      simp only [pick, List.filterMap_cons, List.filterMap_nil, List.getElem?_toArray, List.getElem?_cons_zero, List.getElem?_cons_succ]
      go_wp2_with fail
      refine HK.out _ _ ?_
      clear HK K
      rw [← HWa.out]
      clear HWa ff0 ff1 ff2 cb_B2 cb_B3 cb_B8 cb_B10
      replace RH := RH.chg hca (fun k hk e => RH.ne B2 (by decide) (by rw [hk]; exact congrArg some e))
      replace RB := RB.chg hca (fun k hk e => RB.ne B2 (by decide) (by rw [hk]; exact congrArg some e))
      replace B3 := hca.blkS B3 (by unfold at1; omega)
      replace B8 := hca.blkS B8 (by unfold at1; omega)
      replace B10 := hca.blkS B10 (by unfold at1; omega)
      replace B2 := hba
      clear hba
      replace hxe := hxe.chg hca (fun i hi => by have h1 : i = w.heap.size := hi; omega)
      clear hca
      have cB := blk3 B10
      refine blkStep (fun K HK => ?_)
      simp only [pick, List.filterMap_cons, List.filterMap_nil, List.getElem?_toArray, List.getElem?_cons_zero, List.getElem?_cons_succ]
      go_wp2_with fail
      refine HK.out _ _ ?_
      clear HK K
      clear cB
      obtain ⟨wpb, hwb, hbb, hcb⟩ := three_set B3 (.int .i64 b.ts) (.int .i64 b.beta) (.slice o_b b.hops.length c_b)
      have HWb := Lib.hid hwb
      clear hwb
      have ff0 := fr_of B3 0
      have ff1 := fr_of B3 1
      have ff2 := fr_of B3 2
      have cb_B2 := blk3 B2
      have cb_B3 := blk3 B3
      have cb_B8 := blk3 B8
      have cb_B10 := blk3 B10
      refine badStep (by kernel_rfl) (fun K HK => ?_)
      simp only [pick, List.filterMap_cons, List.filterMap_nil, List.getElem?_toArray, List.getElem?_cons_zero, List.getElem?_cons_succ]
      go_wp2_with fail
      refine HK.out _ _ ?_
      clear HK K
      rw [← HWb.out]
      clear HWb ff0 ff1 ff2 cb_B2 cb_B3 cb_B8 cb_B10
      replace RH := RH.chg hcb (fun k hk e => RH.ne B3 (by decide) (by rw [hk]; exact congrArg some e))
      replace RB := RB.chg hcb (fun k hk e => RB.ne B3 (by decide) (by rw [hk]; exact congrArg some e))
      replace B2 := hcb.blkS B2 (by unfold at1; omega)
      replace B8 := hcb.blkS B8 (by unfold at1; omega)
      replace B10 := hcb.blkS B10 (by unfold at1; omega)
      replace B3 := hbb
      clear hbb
      replace hxe := hxe.chg hcb (fun i hi => by have h1 : i = (w.heap.size + 1) := hi; omega)
      clear hcb
      have cB := blk3 B10
      refine blkStep (fun K HK => ?_)
      simp only [pick, List.filterMap_cons, List.filterMap_nil, List.getElem?_toArray, List.getElem?_cons_zero, List.getElem?_cons_succ]
      go_wp2_with fail
      refine HK.out _ _ ?_
      clear HK K
      clear cB
      refine doneStep (by kernel_rfl) ?_
      have cB := blk3 B2
      have cC := blk3 B3
      have hwb := (hx0.trans hn1).size
      go_wp2_with fail
      refine bodyPost_ret (v := .tuple #[.agg #[.int .i64 a.ts, .int .i64 a.beta, .slice o_a a.hops.length c_a], .int .i64 i, .agg #[.int .i64 b.ts, .int .i64 b.beta, .slice o_b b.hops.length c_b], .int .i64 (j - 1)]) (by simp [results, Try.results36, go_sem, cB, cC]) rfl ?_
      exact ⟨_, _, a, b, i, j - 1, rfl, ha5, hb5, RH.mono hwb, RB.mono hwb, hxe⟩
    · have hxe := hx0.trans (hn1.ofCur s.x hgl)
      obtain ⟨wpa, hwa, hba, hca⟩ := three_set B2 (.int .i64 a.ts) (.int .i64 a.beta) (.slice o_a a.hops.length c_a)
      have HWa := Lib.hid hwa
      clear hwa
      have ff0 := fr_of B2 0
      have ff1 := fr_of B2 1
      have ff2 := fr_of B2 2
      have cb_B2 := blk3 B2
      have cb_B3 := blk3 B3
      have cb_B8 := blk3 B8
      have cb_B10 := blk3 B10
      refine badStep (by kernel_rfl) (fun K HK => ?_)
      simp only [pick, List.filterMap_cons, List.filterMap_nil, List.getElem?_toArray, List.getElem?_cons_zero, List.getElem?_cons_succ]
      go_wp2_with fail
      refine HK.out _ _ ?_
      clear HK K
      rw [← HWa.out]
      clear HWa ff0 ff1 ff2 cb_B2 cb_B3 cb_B8 cb_B10
      replace RH := RH.chg hca (fun k hk e => RH.ne B2 (by decide) (by rw [hk]; exact congrArg some e))
      replace RB := RB.chg hca (fun k hk e => RB.ne B2 (by decide) (by rw [hk]; exact congrArg some e))
      replace B3 := hca.blkS B3 (by unfold at1; omega)
      replace B8 := hca.blkS B8 (by unfold at1; omega)
      replace B10 := hca.blkS B10 (by unfold at1; omega)
      replace B2 := hba
      clear hba
      replace hxe := hxe.chg hca (fun i hi => by have h1 : i = w.heap.size := hi; omega)
      clear hca
      have cB := blk3 B10
      refine blkStep (fun K HK => ?_)
      simp only [pick, List.filterMap_cons, List.filterMap_nil, List.getElem?_toArray, List.getElem?_cons_zero, List.getElem?_cons_succ]
      go_wp2_with fail
      refine HK.out _ _ ?_
      clear HK K
      clear cB
      obtain ⟨wpb, hwb, hbb, hcb⟩ := three_set B3 (.int .i64 b.ts) (.int .i64 b.beta) (.slice o_b b.hops.length c_b)
      have HWb := Lib.hid hwb
      clear hwb
      have ff0 := fr_of B3 0
      have ff1 := fr_of B3 1
      have ff2 := fr_of B3 2
      have cb_B2 := blk3 B2
      have cb_B3 := blk3 B3
      have cb_B8 := blk3 B8
      have cb_B10 := blk3 B10
      refine badStep (by kernel_rfl) (fun K HK => ?_)
      simp only [pick, List.filterMap_cons, List.filterMap_nil, List.getElem?_toArray, List.getElem?_cons_zero, List.getElem?_cons_succ]
      go_wp2_with fail
      refine HK.out _ _ ?_
      clear HK K
      rw [← HWb.out]
      clear HWb ff0 ff1 ff2 cb_B2 cb_B3 cb_B8 cb_B10
      replace RH := RH.chg hcb (fun k hk e => RH.ne B3 (by decide) (by rw [hk]; exact congrArg some e))
      replace RB := RB.chg hcb (fun k hk e => RB.ne B3 (by decide) (by rw [hk]; exact congrArg some e))
      replace B2 := hcb.blkS B2 (by unfold at1; omega)
      replace B8 := hcb.blkS B8 (by unfold at1; omega)
      replace B10 := hcb.blkS B10 (by unfold at1; omega)
      replace B3 := hbb
      clear hbb
      replace hxe := hxe.chg hcb (fun i hi => by have h1 : i = (w.heap.size + 1) := hi; omega)
      clear hcb
      have cB := blk3 B10
      refine blkStep (fun K HK => ?_)
      simp only [pick, List.filterMap_cons, List.filterMap_nil, List.getElem?_toArray, List.getElem?_cons_zero, List.getElem?_cons_succ]
      go_wp2_with fail
      refine HK.out _ _ ?_
      clear HK K
      clear cB
      refine doneStep (by kernel_rfl) ?_
      have cB := blk3 B2
      have cC := blk3 B3
      have hwb := (hx0.trans hn1).size
      go_wp2_with fail
      refine bodyPost_ret (v := .tuple #[.agg #[.int .i64 a.ts, .int .i64 a.beta, .slice o_a a.hops.length c_a], .int .i64 i, .agg #[.int .i64 b.ts, .int .i64 b.beta, .slice o_b b.hops.length c_b], .int .i64 (j - 1)]) (by simp [results, Try.results36, go_sem, cB, cC]) rfl ?_
      exact ⟨_, _, a, b, i, j - 1, rfl, ha5, hb5, RH.mono hwb, RB.mono hwb, hxe⟩

end Go.Proofs.Ytkolfiedakojoaa
