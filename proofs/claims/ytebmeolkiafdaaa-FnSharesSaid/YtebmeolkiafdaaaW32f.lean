/- The draw of what is admitted: no more is said of it than its bounds. No condition but the bounds that the theorem names. -/
import Derived.Test.YtebmeolkiafdaaaW32d
import Derived.Test.YtebmeolkiafdaaaSeq
namespace Go.Proofs.Ytebmeolkiafdaaa
open Go.ChangeShapes Go.WideShapes Go.ChangeAt Go.RowKit Go.Deep

theorem s_l1IntD (g : Nat) (l : List Int) (v : Value) (code : List Int) (w : World) (hc : Cur g v code w) (hl : 0 < l.length) (hm : l.length ≤ 1048576) :
    Calls Try.prog 114 #[.pointer (some ⟨g, 0, none⟩), .slice (some ⟨w.heap.size, 0, none⟩) l.length l.length] (w.alloc (.cells (l.flatMap intF).toArray 3)).drew fun e w' => ∃ r : Int, e = .returned (.int .i64 r) ∧ r ∈ l ∧ Cur g v code w' ∧ Chg (at1 g) w w' := by
  have h := s_l1Int g l v code w.drew (hc.ext (Ext.refl _).drew) hl hm
  exact h.mono fun e w' ⟨r, h1, h2, h3, h4⟩ => ⟨r, h1, h2, h3, (Chg.ofExt (Ext.refl w).drew).trans h4⟩

set_option maxRecDepth 100000 in
set_option maxHeartbeats 2000000 in
theorem s_DrawAdmit (code : List Int) (cv : Value) (w : World) (hr : RdS Rep.byte w cv code) (hu : ∀ x ∈ code, U8 x) (hl : code.length ≤ 1048576) :
    Calls Try.prog 11 #[cv] w fun e w' => ∃ (v : Value) (l : List Resv) (x : Resv) (c now : Int), e = .returned (.tuple #[v, .agg #[.int .i64 x.id, .int .i64 x.asn, .int .i64 x.iface, .int .i64 x.rate, .int .i64 x.till], .int .i64 c, .int .i64 now]) ∧ l.length ≤ 50 ∧ OwnF Resv.f 5 w.heap.size 26 w' v l ∧ Ext w w' := by
  have hx0 : Ext w (w.alloc (.cells #[.int .i64 0, .int .i64 0, .int .i64 0, .int .i64 0, .int .i64 0] 26)) := (Ext.refl _).alloc _
  have HB0 := Lib.hid (blk_new w (.cells #[.int .i64 0, .int .i64 0, .int .i64 0, .int .i64 0, .int .i64 0] 26))
  go_enter Try.func11, Try.ntmps11
  go_wp2_with fail
  refine (s_l1New code _ _ (hr.ext hx0) hu hl).mono ?_
  rintro e w1 ⟨g, rfl, hgl, hc1, hn1⟩
  have hgw := hc1.lt
  have hg1 : w.heap.size < g := by have h1 := hx0.size; simp at h1 hgl; omega
  go_wp2_with fail
  refine (s_l32List g _ _ _ hc1).mono ?_
  rintro e w2 ⟨v, l, rfl, hl0, ho, hc2, hz2⟩
  go_wp2_with fail
  refine (s_l32Any g _ _ _ hc2).mono ?_
  rintro e w3 ⟨x, rfl, hc3, hz3⟩
  have hxb : Ext w3 (w3.alloc (.cells #[.int .i64 x.id, .int .i64 x.asn, .int .i64 x.iface, .int .i64 x.rate, .int .i64 x.till] 26)) := (Ext.refl _).alloc _
  have HXB := Lib.hid (blk_new w3 (.cells #[.int .i64 x.id, .int .i64 x.asn, .int .i64 x.iface, .int .i64 x.rate, .int .i64 x.till] 26))
  have hg3 : g < w3.heap.size := hc3.lt
  have hz3b := (hz2.trans hz3).ext hxb
  have cf1 := blk5 HXB.out
  go_upto_region 4 with (fail)
  generalize w3.alloc (.cells #[.int .i64 x.id, .int .i64 x.asn, .int .i64 x.iface, .int .i64 x.rate, .int .i64 x.till] 26) = wx at *
  refine planStep (.blk [0, 2, 5] (.two 1 3 (.one 3 (.one 4 (.one 6 (.blk [7, 8] (.one 9 (.blk [10, 11] .done)))))) (.two 1 4 (.one 4 (.one 6 (.blk [7, 8] (.one 9 (.blk [10, 11] .done))))) (.two 1 6 (.one 6 (.blk [7, 8] (.one 9 (.blk [10, 11] .done)))) (.blk [7, 8] (.one 1 (.one 9 (.blk [10, 11] .done)))))))) [4, 6, 9] (by kernel_rfl) (by kernel_rfl) ?_
  refine blkStep (fun K HK => ?_)
  simp only [pick, List.filterMap_cons, List.filterMap_nil, List.getElem?_toArray, List.getElem?_cons_zero, List.getElem?_cons_succ]
  go_wp2_with fail
  refine HK.out _ _ ?_
  clear HK K
  clear cf1
  refine twoStep ?_ ?_
  · have cfl := blk5 (Chg.blkS (Chg.ofExt (S := at1 g) (Ext.refl _).drew) HXB.out (by unfold at1; omega))
    refine oneStep (fun K HK => ?_)
    simp only [pick, List.filterMap_cons, List.filterMap_nil, List.getElem?_toArray, List.getElem?_cons_zero, List.getElem?_cons_succ]
    go_wp2_with fail
    refine HK.out _ _ (Ext.refl _) ?_
    clear HK K cfl
    refine oneStep (fun K HK => ?_)
    simp only [pick, List.filterMap_cons, List.filterMap_nil, List.getElem?_toArray, List.getElem?_cons_zero, List.getElem?_cons_succ]
    go_wp2_with fail
    refine HK.out _ _ ((Ext.refl _).alloc _) ?_
    clear HK K
    refine badStep (by kernel_rfl) (fun K HK => ?_)
    simp only [pick, List.filterMap_cons, List.filterMap_nil, List.getElem?_toArray, List.getElem?_cons_zero, List.getElem?_cons_succ]
    go_wp2_with fail
    refine (s_l1IntD g [8, 8, 4, 20, 0, -1] _ _ _ (hc3.ext hxb) (by decide) (by decide)).mono ?_
    rintro e w4 ⟨a, rfl, hma, hc4, hz4⟩
    clear hma
    go_wp2_with fail
    refine HK.out _ _ ?_
    clear HK K
    refine badStep (by kernel_rfl) (fun K HK => ?_)
    simp only [pick, List.filterMap_cons, List.filterMap_nil, List.getElem?_toArray, List.getElem?_cons_zero, List.getElem?_cons_succ]
    go_wp2_with fail
    refine (s_l1Below g (20) _ _ _ hc4).mono ?_
    rintro e w5 ⟨b, rfl, hb0, hb1, hc5, hz5⟩
    have hb2 : b < 20 := by omega
    clear hb1
    go_wp2_with fail
    refine HK.out _ _ ?_
    clear HK K
    have HT := Lib.hid ((hz2.trans hz3).trans ((Chg.ofExt hxb).trans (hz4.trans hz5)))
    have HX2 := Lib.hid (hn1.ofCur HT.out hgl)
    have HRB := Lib.hid (Ext.block HX2.out HB0.out)
    have HOW := Lib.hid (ho.at1 (hz3.trans ((Chg.ofExt hxb).trans (hz4.trans hz5))) hgw)
    refine blkStep (fun K HK => ?_)
    simp only [pick, List.filterMap_cons, List.filterMap_nil, List.getElem?_toArray, List.getElem?_cons_zero, List.getElem?_cons_succ]
    go_wp2_with fail
    refine HK.out _ _ ?_
    clear HK K
    obtain ⟨wq, hwq, hbq, hcq⟩ := rs_set HRB.out (.int .i64 x.id) (.int .i64 x.asn) (.int .i64 x.iface) (.int .i64 x.rate) (.int .i64 x.till)
    have HWQ := Lib.hid hwq
    have HBQ := Lib.hid hbq
    have HCE := Lib.hid ((hx0.trans HX2.out).chg hcq (fun i hi => by have h1 : i = w.heap.size := hi; omega))
    have HOQ := Lib.hid ((HOW.out.chg hcq (fun k hk e => by have h1 := (HOW.out.block k hk).1; have h2 : k = w.heap.size := e; omega)).mono (hx0.trans hn1).size)
    clear hwq hbq hcq
    have cR := blk5 HRB.out
    have fR0 := fr_of HRB.out 0
    have fR1 := fr_of HRB.out 1
    have fR2 := fr_of HRB.out 2
    have fR3 := fr_of HRB.out 3
    have fR4 := fr_of HRB.out 4
    refine badStep (by kernel_rfl) (fun K HK => ?_)
    simp only [pick, List.filterMap_cons, List.filterMap_nil, List.getElem?_toArray, List.getElem?_cons_zero, List.getElem?_cons_succ]
    go_wp2_with fail
    refine HK.out _ _ ?_
    clear HK K
    rw [← HWQ.out]
    clear cR fR0 fR1 fR2 fR3 fR4
    refine blkStep (fun K HK => ?_)
    simp only [pick, List.filterMap_cons, List.filterMap_nil, List.getElem?_toArray, List.getElem?_cons_zero, List.getElem?_cons_succ]
    go_wp2_with fail
    refine HK.out _ _ ?_
    clear HK K
    refine doneStep (by kernel_rfl) ?_
    have cc := blk5 HBQ.out
    go_wp2_with fail
    refine bodyPost_ret (v := .tuple #[v, .agg #[.int .i64 x.id, .int .i64 x.asn, .int .i64 x.iface, .int .i64 x.rate, .int .i64 x.till], .int .i64 a, .int .i64 (40 + b)]) (by simp [results, Try.results11, go_sem, cc]) rfl ?_
    exact ⟨v, l, x, a, 40 + b, rfl, hl0, HOQ.out, HCE.out⟩
  · refine oneStep (fun K HK => ?_)
    simp only [pick, List.filterMap_cons, List.filterMap_nil, List.getElem?_toArray, List.getElem?_cons_zero, List.getElem?_cons_succ]
    go_wp2_with fail
    refine HK.out _ _ ((Ext.refl _).alloc _) ?_
    clear HK K
    refine twoStep ?_ ?_
    · have cfl := blk5 (Chg.blkS (Chg.ofExt (S := at1 g) ((Ext.refl _).alloc (.cells #[.int .i64 8, .int .i64 8, .int .i64 4, .int .i64 20, .int .i64 0, .int .i64 (-1)] 3)).drew) HXB.out (by unfold at1; omega))
      refine oneStep (fun K HK => ?_)
      simp only [pick, List.filterMap_cons, List.filterMap_nil, List.getElem?_toArray, List.getElem?_cons_zero, List.getElem?_cons_succ]
      go_wp2_with fail
      refine HK.out _ _ (Ext.refl _) ?_
      clear HK K cfl
      refine badStep (by kernel_rfl) (fun K HK => ?_)
      simp only [pick, List.filterMap_cons, List.filterMap_nil, List.getElem?_toArray, List.getElem?_cons_zero, List.getElem?_cons_succ]
      go_wp2_with fail
      refine (s_l1IntD g [8, 8, 4, 20, 0, -1] _ _ _ (hc3.ext hxb) (by decide) (by decide)).mono ?_
      rintro e w4 ⟨a, rfl, hma, hc4, hz4⟩
      clear hma
      go_wp2_with fail
      refine HK.out _ _ ?_
      clear HK K
      refine badStep (by kernel_rfl) (fun K HK => ?_)
      simp only [pick, List.filterMap_cons, List.filterMap_nil, List.getElem?_toArray, List.getElem?_cons_zero, List.getElem?_cons_succ]
      go_wp2_with fail
      refine (s_l1Below g (20) _ _ _ hc4).mono ?_
      rintro e w5 ⟨b, rfl, hb0, hb1, hc5, hz5⟩
      have hb2 : b < 20 := by omega
      clear hb1
      go_wp2_with fail
      refine HK.out _ _ ?_
      clear HK K
      have HT := Lib.hid ((hz2.trans hz3).trans ((Chg.ofExt hxb).trans (hz4.trans hz5)))
      have HX2 := Lib.hid (hn1.ofCur HT.out hgl)
      have HRB := Lib.hid (Ext.block HX2.out HB0.out)
      have HOW := Lib.hid (ho.at1 (hz3.trans ((Chg.ofExt hxb).trans (hz4.trans hz5))) hgw)
      refine blkStep (fun K HK => ?_)
      simp only [pick, List.filterMap_cons, List.filterMap_nil, List.getElem?_toArray, List.getElem?_cons_zero, List.getElem?_cons_succ]
      go_wp2_with fail
      refine HK.out _ _ ?_
      clear HK K
      obtain ⟨wq, hwq, hbq, hcq⟩ := rs_set HRB.out (.int .i64 x.id) (.int .i64 x.asn) (.int .i64 x.iface) (.int .i64 x.rate) (.int .i64 x.till)
      have HWQ := Lib.hid hwq
      have HBQ := Lib.hid hbq
      have HCE := Lib.hid ((hx0.trans HX2.out).chg hcq (fun i hi => by have h1 : i = w.heap.size := hi; omega))
      have HOQ := Lib.hid ((HOW.out.chg hcq (fun k hk e => by have h1 := (HOW.out.block k hk).1; have h2 : k = w.heap.size := e; omega)).mono (hx0.trans hn1).size)
      clear hwq hbq hcq
      have cR := blk5 HRB.out
      have fR0 := fr_of HRB.out 0
      have fR1 := fr_of HRB.out 1
      have fR2 := fr_of HRB.out 2
      have fR3 := fr_of HRB.out 3
      have fR4 := fr_of HRB.out 4
      refine badStep (by kernel_rfl) (fun K HK => ?_)
      simp only [pick, List.filterMap_cons, List.filterMap_nil, List.getElem?_toArray, List.getElem?_cons_zero, List.getElem?_cons_succ]
      go_wp2_with fail
      refine HK.out _ _ ?_
      clear HK K
      rw [← HWQ.out]
      clear cR fR0 fR1 fR2 fR3 fR4
      refine blkStep (fun K HK => ?_)
      simp only [pick, List.filterMap_cons, List.filterMap_nil, List.getElem?_toArray, List.getElem?_cons_zero, List.getElem?_cons_succ]
      go_wp2_with fail
      refine HK.out _ _ ?_
      clear HK K
      refine doneStep (by kernel_rfl) ?_
      have cc := blk5 HBQ.out
      go_wp2_with fail
      refine bodyPost_ret (v := .tuple #[v, .agg #[.int .i64 x.id, .int .i64 x.asn, .int .i64 x.iface, .int .i64 x.rate, .int .i64 x.till], .int .i64 a, .int .i64 (40 + b)]) (by simp [results, Try.results11, go_sem, cc]) rfl ?_
      exact ⟨v, l, x, a, 40 + b, rfl, hl0, HOQ.out, HCE.out⟩
    · refine badStep (by kernel_rfl) (fun K HK => ?_)
      simp only [pick, List.filterMap_cons, List.filterMap_nil, List.getElem?_toArray, List.getElem?_cons_zero, List.getElem?_cons_succ]
      go_wp2_with fail
      refine (s_l1IntD g [8, 8, 4, 20, 0, -1] _ _ _ (hc3.ext hxb) (by decide) (by decide)).mono ?_
      rintro e w4 ⟨a, rfl, hma, hc4, hz4⟩
      clear hma
      go_wp2_with fail
      refine HK.out _ _ ?_
      clear HK K
      refine twoStep ?_ ?_
      · have cfl := blk5 (Chg.blkS hz4 HXB.out (by unfold at1; omega))
        refine oneStep (fun K HK => ?_)
        simp only [pick, List.filterMap_cons, List.filterMap_nil, List.getElem?_toArray, List.getElem?_cons_zero, List.getElem?_cons_succ]
        go_wp2_with fail
        refine HK.out _ _ (Ext.refl _) ?_
        clear HK K cfl
        refine badStep (by kernel_rfl) (fun K HK => ?_)
        simp only [pick, List.filterMap_cons, List.filterMap_nil, List.getElem?_toArray, List.getElem?_cons_zero, List.getElem?_cons_succ]
        go_wp2_with fail
        refine (s_l1Below g (20) _ _ _ hc4).mono ?_
        rintro e w5 ⟨b, rfl, hb0, hb1, hc5, hz5⟩
        have hb2 : b < 20 := by omega
        clear hb1
        go_wp2_with fail
        refine HK.out _ _ ?_
        clear HK K
        have HT := Lib.hid ((hz2.trans hz3).trans ((Chg.ofExt hxb).trans (hz4.trans hz5)))
        have HX2 := Lib.hid (hn1.ofCur HT.out hgl)
        have HRB := Lib.hid (Ext.block HX2.out HB0.out)
        have HOW := Lib.hid (ho.at1 (hz3.trans ((Chg.ofExt hxb).trans (hz4.trans hz5))) hgw)
        refine blkStep (fun K HK => ?_)
        simp only [pick, List.filterMap_cons, List.filterMap_nil, List.getElem?_toArray, List.getElem?_cons_zero, List.getElem?_cons_succ]
        go_wp2_with fail
        refine HK.out _ _ ?_
        clear HK K
        obtain ⟨wq, hwq, hbq, hcq⟩ := rs_set HRB.out (.int .i64 x.id) (.int .i64 x.asn) (.int .i64 x.iface) (.int .i64 x.rate) (.int .i64 x.till)
        have HWQ := Lib.hid hwq
        have HBQ := Lib.hid hbq
        have HCE := Lib.hid ((hx0.trans HX2.out).chg hcq (fun i hi => by have h1 : i = w.heap.size := hi; omega))
        have HOQ := Lib.hid ((HOW.out.chg hcq (fun k hk e => by have h1 := (HOW.out.block k hk).1; have h2 : k = w.heap.size := e; omega)).mono (hx0.trans hn1).size)
        clear hwq hbq hcq
        have cR := blk5 HRB.out
        have fR0 := fr_of HRB.out 0
        have fR1 := fr_of HRB.out 1
        have fR2 := fr_of HRB.out 2
        have fR3 := fr_of HRB.out 3
        have fR4 := fr_of HRB.out 4
        refine badStep (by kernel_rfl) (fun K HK => ?_)
        simp only [pick, List.filterMap_cons, List.filterMap_nil, List.getElem?_toArray, List.getElem?_cons_zero, List.getElem?_cons_succ]
        go_wp2_with fail
        refine HK.out _ _ ?_
        clear HK K
        rw [← HWQ.out]
        clear cR fR0 fR1 fR2 fR3 fR4
        refine blkStep (fun K HK => ?_)
        simp only [pick, List.filterMap_cons, List.filterMap_nil, List.getElem?_toArray, List.getElem?_cons_zero, List.getElem?_cons_succ]
        go_wp2_with fail
        refine HK.out _ _ ?_
        clear HK K
        refine doneStep (by kernel_rfl) ?_
        have cc := blk5 HBQ.out
        go_wp2_with fail
        refine bodyPost_ret (v := .tuple #[v, .agg #[.int .i64 x.id, .int .i64 x.asn, .int .i64 x.iface, .int .i64 x.rate, .int .i64 x.till], .int .i64 a, .int .i64 (40 + b)]) (by simp [results, Try.results11, go_sem, cc]) rfl ?_
        exact ⟨v, l, x, a, 40 + b, rfl, hl0, HOQ.out, HCE.out⟩
      · refine badStep (by kernel_rfl) (fun K HK => ?_)
        simp only [pick, List.filterMap_cons, List.filterMap_nil, List.getElem?_toArray, List.getElem?_cons_zero, List.getElem?_cons_succ]
        go_wp2_with fail
        refine (s_l1Below g (20) _ _ _ hc4).mono ?_
        rintro e w5 ⟨b, rfl, hb0, hb1, hc5, hz5⟩
        have hb2 : b < 20 := by omega
        clear hb1
        go_wp2_with fail
        refine HK.out _ _ ?_
        clear HK K
        refine blkStep (fun K HK => ?_)
        simp only [pick, List.filterMap_cons, List.filterMap_nil, List.getElem?_toArray, List.getElem?_cons_zero, List.getElem?_cons_succ]
        go_wp2_with fail
        refine HK.out _ _ ?_
        clear HK K
        have cfl := blk5 (Chg.blkS (hz4.trans hz5) HXB.out (by unfold at1; omega))
        refine oneStep (fun K HK => ?_)
        simp only [pick, List.filterMap_cons, List.filterMap_nil, List.getElem?_toArray, List.getElem?_cons_zero, List.getElem?_cons_succ]
        go_wp2_with fail
        refine HK.out _ _ (Ext.refl _) ?_
        clear HK K cfl
        have HT := Lib.hid ((hz2.trans hz3).trans ((Chg.ofExt hxb).trans (hz4.trans hz5)))
        have HX2 := Lib.hid (hn1.ofCur HT.out hgl)
        have HRB := Lib.hid (Ext.block HX2.out HB0.out)
        have HOW := Lib.hid (ho.at1 (hz3.trans ((Chg.ofExt hxb).trans (hz4.trans hz5))) hgw)
        obtain ⟨wq, hwq, hbq, hcq⟩ := rs_set HRB.out (.int .i64 x.id) (.int .i64 x.asn) (.int .i64 x.iface) (.int .i64 x.rate) (.int .i64 x.till)
        have HWQ := Lib.hid hwq
        have HBQ := Lib.hid hbq
        have HCE := Lib.hid ((hx0.trans HX2.out).chg hcq (fun i hi => by have h1 : i = w.heap.size := hi; omega))
        have HOQ := Lib.hid ((HOW.out.chg hcq (fun k hk e => by have h1 := (HOW.out.block k hk).1; have h2 : k = w.heap.size := e; omega)).mono (hx0.trans hn1).size)
        clear hwq hbq hcq
        have cR := blk5 HRB.out
        have fR0 := fr_of HRB.out 0
        have fR1 := fr_of HRB.out 1
        have fR2 := fr_of HRB.out 2
        have fR3 := fr_of HRB.out 3
        have fR4 := fr_of HRB.out 4
        refine badStep (by kernel_rfl) (fun K HK => ?_)
        simp only [pick, List.filterMap_cons, List.filterMap_nil, List.getElem?_toArray, List.getElem?_cons_zero, List.getElem?_cons_succ]
        go_wp2_with fail
        refine HK.out _ _ ?_
        clear HK K
        rw [← HWQ.out]
        clear cR fR0 fR1 fR2 fR3 fR4
        refine blkStep (fun K HK => ?_)
        simp only [pick, List.filterMap_cons, List.filterMap_nil, List.getElem?_toArray, List.getElem?_cons_zero, List.getElem?_cons_succ]
        go_wp2_with fail
        refine HK.out _ _ ?_
        clear HK K
        refine doneStep (by kernel_rfl) ?_
        have cc := blk5 HBQ.out
        go_wp2_with fail
        refine bodyPost_ret (v := .tuple #[v, .agg #[.int .i64 x.id, .int .i64 x.asn, .int .i64 x.iface, .int .i64 x.rate, .int .i64 x.till], .int .i64 a, .int .i64 (40 + b)]) (by simp [results, Try.results11, go_sem, cc]) rfl ?_
        exact ⟨v, l, x, a, 40 + b, rfl, hl0, HOQ.out, HCE.out⟩

end Go.Proofs.Ytebmeolkiafdaaa
