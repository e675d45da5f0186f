/- Part 14 of 28 of what the laws FnNoDoorTwice and FnAuthor need: Parts made of segments, reference; the first and the last AS of a segment. No condition but the bounds that each theorem names. Rows that the call owns, by ranges of blocks, and rows that are only read from now on. No condition. A path up by one segment and down by another one, from where they meet. No condition but the bounds that the theorem names. -/
import Derived.Test.YtjmlicmloacmaaaGreatKN12
import Derived.Test.YtjmlicmloacmaaaGreatKN13
import Derived.Test.YtjmlicmloacmaaaGreatKN10
namespace Go.Proofs.YtjmlicmloacmaaaGreat
section
open Go.ChangeShapes Go.WideShapes Go.ChangeAt Go.RowKit Go.Deep

set_option maxHeartbeats 1000000 in
theorem s_FirstASn (s : Seg) (v : Value) (w : World) (r : RdS Hop.rep w v s.hops) :
    Calls Tryz.prog 237 #[.agg #[.int .i64 s.ts, .int .i64 s.beta, v]] w fun e w' => ∃ q : Int, e = .returned (.int .i64 q) ∧ (∀ h : 0 < s.hops.length, q = (s.hops[0]'(by omega)).asn) ∧ Ext w w' := by
  obtain ⟨o, cap, rfl, hsm⟩ := r.shape
  have hx0 : Ext w (w.alloc (.cells #[.int .i64 s.ts, .int .i64 s.beta, .slice o s.hops.length cap] 217)) := (Ext.refl _).alloc _
  have HB0 := Lib.hid (blk_new w (.cells #[.int .i64 s.ts, .int .i64 s.beta, .slice o s.hops.length cap] 217))
  have cb := blk3 HB0.out
  go_enter Tryz.func237, Tryz.ntmps237
  by_cases h0 : 0 < s.hops.length
  · have h1 : ((s.hops.length : Int) == 0) = false := by simp; exact List.ne_nil_of_length_pos h0
    have h2 : (0 : Int) < (s.hops.length : Int) := by omega
    obtain ⟨b, off, rfl, hc⟩ := Hop.at (r.ext hx0) 0 h0
    simp only [Nat.zero_mul, Nat.add_zero] at hc
    go_wp2_with fail
    go_ret
    exact ⟨_, rfl, fun _ => rfl, hx0⟩
  · have h1 : ((s.hops.length : Int) == 0) = true := by simp; exact List.eq_nil_of_length_eq_zero (by omega)
    go_wp2_with fail
    go_ret
    exact ⟨_, rfl, fun h => absurd h h0, hx0⟩

set_option maxHeartbeats 1000000 in
theorem s_LastASn (s : Seg) (v : Value) (w : World) (r : RdS Hop.rep w v s.hops) :
    Calls Tryz.prog 238 #[.agg #[.int .i64 s.ts, .int .i64 s.beta, v]] w fun e w' => ∃ q : Int, e = .returned (.int .i64 q) ∧ (∀ h : 0 < s.hops.length, q = (s.hops[(s.hops.length - 1)]'(by omega)).asn) ∧ Ext w w' := by
  obtain ⟨o, cap, rfl, hsm⟩ := r.shape
  have hx0 : Ext w (w.alloc (.cells #[.int .i64 s.ts, .int .i64 s.beta, .slice o s.hops.length cap] 217)) := (Ext.refl _).alloc _
  have HB0 := Lib.hid (blk_new w (.cells #[.int .i64 s.ts, .int .i64 s.beta, .slice o s.hops.length cap] 217))
  have cb := blk3 HB0.out
  go_enter Tryz.func238, Tryz.ntmps238
  by_cases h0 : 0 < s.hops.length
  · have h1 : ((s.hops.length : Int) == 0) = false := by simp; exact List.ne_nil_of_length_pos h0
    have hlt : s.hops.length - 1 < s.hops.length := by omega
    obtain ⟨b, off, rfl, hc⟩ := Hop.at (r.ext hx0) (s.hops.length - 1) hlt
    obtain ⟨m, hm⟩ : ∃ m, m = s.hops.length - 1 := ⟨_, rfl⟩
    have hm1 : (s.hops.length : Int) - 1 = (m : Int) := by omega
    have hm2 : m < s.hops.length := by omega
    have h2 : (0 : Int) < (s.hops.length : Int) := by omega
    have hx : s.hops[s.hops.length - 1] = s.hops[m] := by congr 1; omega
    rw [hx] at hc
    rw [← hm] at hc
    have HX := Lib.hid hx
    clear hx hm
    go_wp2_with fail
    go_ret
    exact ⟨_, rfl, fun _ => congrArg Hop.asn HX.out.symm, hx0⟩
  · have h1 : ((s.hops.length : Int) == 0) = true := by simp; exact List.eq_nil_of_length_eq_zero (by omega)
    go_wp2_with fail
    go_ret
    exact ⟨_, rfl, fun h => absurd h h0, hx0⟩

set_option maxRecDepth 100000 in
set_option maxHeartbeats 8000000 in
theorem s_MakePart (s : Seg) (v : Value) (kind k : Int) (w : World) (r : RdS Hop.rep w v s.hops) (hl : s.hops.length ≤ 1000) :
    Calls Tryz.prog 236 #[.agg #[.int .i64 s.ts, .int .i64 s.beta, v], .int .i64 kind, .int .i64 k] w fun e w' => ∃ u, e = .returned (.agg #[.int .i64 (makePart s kind k).kind, .int .i64 (makePart s kind k).ts, .int .i64 (makePart s kind k).beta, u]) ∧ OwnF Hop.f 5 w.heap.size 44 w' u (makePart s kind k).hops ∧ Ext w w' := by
  obtain ⟨o, cap, rfl, hsm⟩ := r.shape
  obtain ⟨E⟩ := elemHop
  have hcap := r.capLe
  have hx0 := ext2 w (.cells #[.int .i64 s.ts, .int .i64 s.beta, .slice o s.hops.length cap] 217) (.cells #[.int .i64 0, .int .i64 0, .int .i64 0, .slice none 0 0] 47)
  have HB := Lib.hid (al2 w (.cells #[.int .i64 s.ts, .int .i64 s.beta, .slice o s.hops.length cap] 217) (.cells #[.int .i64 0, .int .i64 0, .int .i64 0, .slice none 0 0] 47))
  go_enter Tryz.func236, Tryz.ntmps236
  have cb := blk3 HB.out.1
  have cz := blk4 HB.out.2
  go_wp2_with fail
  refine (s_l1In _ _ _ _).mono ?_
  rintro e _ ⟨rfl, rfl⟩
  cases hin : inR k 0 ((s.hops.length : Int) - 1)
  · have hmp : makePart s kind k = ⟨0, 0, 0, []⟩ := by unfold makePart; rw [if_neg (by simp [hin])]
    have HMP := Lib.hid hmp
    clear hmp
    have g0 := fr_of HB.out.2 0
    have g1 := fr_of HB.out.2 1
    have g2 := fr_of HB.out.2 2
    have g3 := fr_of HB.out.2 3
    go_wp2_with fail
    refine bodyPost_ret (v := .agg #[.int .i64 0, .int .i64 0, .int .i64 0, .slice none 0 0]) (by simp [results, Tryz.results236, go_sem, cz]) rfl ⟨.slice none 0 0, ?_, ?_, ?_⟩
    · rw [HMP.out]
    · rw [HMP.out]; exact OwnF.nil _ _ _ _ _
    · first | exact hx0 | exact (((hx0.setCell (by simp) _).setCell (by simp) _).setCell (by simp) _).setCell (by simp) _
  · go_wp2_with fail
    refine (s_l1In _ _ _ _).mono ?_
    rintro e _ ⟨rfl, rfl⟩
    cases hik : inR kind 1 4
    · have hmp : makePart s kind k = ⟨0, 0, 0, []⟩ := by unfold makePart; rw [if_neg (by simp [hin, hik])]
      have HMP := Lib.hid hmp
      clear hmp
      have g0 := fr_of HB.out.2 0
      have g1 := fr_of HB.out.2 1
      have g2 := fr_of HB.out.2 2
      have g3 := fr_of HB.out.2 3
      go_wp2_with fail
      refine bodyPost_ret (v := .agg #[.int .i64 0, .int .i64 0, .int .i64 0, .slice none 0 0]) (by simp [results, Tryz.results236, go_sem, cz]) rfl ⟨.slice none 0 0, ?_, ?_, ?_⟩
      · rw [HMP.out]
      · rw [HMP.out]; exact OwnF.nil _ _ _ _ _
      · first | exact hx0 | exact (((hx0.setCell (by simp) _).setCell (by simp) _).setCell (by simp) _).setCell (by simp) _
    · obtain ⟨h1, h2⟩ := inR_true.1 hin
      obtain ⟨kk, rfl⟩ := Int.eq_ofNat_of_zero_le h1
      have hk : kk < s.hops.length := by omega
      have hmp : makePart s kind kk = mkPart s kind kk := by unfold makePart; rw [if_pos (by simp [hin, hik]), Int.toNat_natCast]
      have HMP := Lib.hid hmp
      clear hmp hin hik h1 h2
      obtain ⟨b, off, rfl, _⟩ := Hop.at r 0 (by omega)
      go_upto_region 3 with (fail)
      clear cb cz
      obtain ⟨W0, hW0⟩ : ∃ W0 : World, W0 = ((w.alloc (.cells #[.int .i64 s.ts, .int .i64 s.beta, .slice (some ⟨b, off, none⟩) s.hops.length cap] 217)).alloc (.cells #[.int .i64 0, .int .i64 0, .int .i64 0, .slice none 0 0] 47)) := ⟨_, rfl⟩
      rw [← hW0] at HB hx0 ⊢
      have hs0 : W0.heap.size = w.heap.size + 2 := by rw [hW0]; simp
      clear hW0
      go_cut [7] (fun v7 wx => ∃ (B7 : Nat) (be : Int), v7 = .pointer (some ⟨B7, 0, none⟩) ∧ be = betaAt s kk ∧ wx.heap[B7]? = some (.cells #[.int .i64 kind, .int .i64 s.ts, .int .i64 be, .slice none 0 0] 47 (0, 0)) ∧ W0.heap.size ≤ B7 ∧ Ext W0 wx)
      case first =>
        have cb := blk3 HB.out.1
        refine planStep (.blk [0, 1, 2, 3, 4] (.two 5 7 (.blk [6] (.one 7 (.one 8 .done))) (.one 5 (.blk [6] (.one 8 .done))))) [8] (by kernel_rfl) (by kernel_rfl) ?_
        generalize hWd : W0.drew = wd
        have hxd : Ext W0 wd := by rw [← hWd]; exact (Ext.refl _).drew
        have cbd := blk3 (hxd.block HB.out.1)
        clear hWd cb
        refine blkStep (fun K HK => ?_)
        simp only [pick, List.filterMap_cons, List.filterMap_nil, List.getElem?_toArray, List.getElem?_cons_zero, List.getElem?_cons_succ]
        go_wp2_with fail
        refine HK.out _ _ ?_
        clear HK K
        refine twoStep ?_ ?_
        · refine oneStep (fun K HK => ?_)
          simp only [pick, List.filterMap_cons, List.filterMap_nil, List.getElem?_toArray, List.getElem?_cons_zero, List.getElem?_cons_succ]
          go_wp2_with fail
          refine (s_BetaAt s _ (kk : Int) _ (r.ext (hx0.trans hxd)) (by omega)).mono ?_
          rintro e w1 ⟨rfl, h1⟩
          generalize hbe : betaAt s kk = be
          have HBE := Lib.hid hbe
          clear hbe
          go_wp2_with fail
          refine HK.out _ _ h1 ?_
          clear HK K
          refine blkStep (fun K HK => ?_)
          simp only [pick, List.filterMap_cons, List.filterMap_nil, List.getElem?_toArray, List.getElem?_cons_zero, List.getElem?_cons_succ]
          go_wp2_with fail
          refine HK.out _ _ ?_
          clear HK K
          refine oneStep (fun K HK => ?_)
          simp only [pick, List.filterMap_cons, List.filterMap_nil, List.getElem?_toArray, List.getElem?_cons_zero, List.getElem?_cons_succ]
          go_wp2_with fail
          refine HK.out _ _ ((Ext.refl _).alloc _) ?_
          clear HK K
          refine badStep (by kernel_rfl) (fun K HK => ?_)
          simp only [pick, List.filterMap_cons, List.filterMap_nil, List.getElem?_toArray, List.getElem?_cons_zero, List.getElem?_cons_succ]
          go_wp2_with fail
          refine HK.out _ _ ?_
          clear HK K
          refine doneStep (by kernel_rfl) ?_
          go_wp2_with fail
          go_meet
          exact ⟨_, be, rfl, HBE.out.symm, blk_new w1 _, (hxd.trans h1).size, (hxd.trans h1).alloc _⟩
        · have hbn := blk_new wd (.cells #[.int .i64 0, .int .i64 0, .int .i64 0, .slice none 0 0] 47)
          refine oneStep (fun K HK => ?_)
          simp only [pick, List.filterMap_cons, List.filterMap_nil, List.getElem?_toArray, List.getElem?_cons_zero, List.getElem?_cons_succ]
          go_wp2_with fail
          refine HK.out _ _ ((Ext.refl _).alloc _) ?_
          clear HK K
          have hxa : Ext wd (wd.alloc (.cells #[.int .i64 0, .int .i64 0, .int .i64 0, .slice none 0 0] 47)) := (Ext.refl _).alloc _
          refine oneStep (fun K HK => ?_)
          simp only [pick, List.filterMap_cons, List.filterMap_nil, List.getElem?_toArray, List.getElem?_cons_zero, List.getElem?_cons_succ]
          go_wp2_with fail
          refine (s_BetaAt s _ (kk : Int) _ (r.ext (hx0.trans (hxd.trans hxa))) (by omega)).mono ?_
          rintro e w1 ⟨rfl, h1⟩
          generalize hbe : betaAt s kk = be
          have HBE := Lib.hid hbe
          clear hbe
          go_wp2_with fail
          refine HK.out _ _ h1 ?_
          clear HK K
          refine blkStep (fun K HK => ?_)
          simp only [pick, List.filterMap_cons, List.filterMap_nil, List.getElem?_toArray, List.getElem?_cons_zero, List.getElem?_cons_succ]
          go_wp2_with fail
          refine HK.out _ _ ?_
          clear HK K
          have hb7 := h1.block hbn
          have hlo := hxd.size
          have c7 := blk4 hb7
          have f70 := fr_of hb7 0
          have f71 := fr_of hb7 1
          have f72 := fr_of hb7 2
          have f73 := fr_of hb7 3
          have HH7 := Lib.hid hb7
          refine badStep (by kernel_rfl) (fun K HK => ?_)
          simp only [pick, List.filterMap_cons, List.filterMap_nil, List.getElem?_toArray, List.getElem?_cons_zero, List.getElem?_cons_succ]
          go_wp2_with fail
          refine HK.out _ _ ?_
          clear HK K
          refine doneStep (by kernel_rfl) ?_
          go_wp2_with fail
          go_meet
          exact ⟨_, be, rfl, HBE.out.symm, blk_set4 HH7.out _ _ _ _, hlo, ext_set4 ((hxd.trans hxa).trans h1) hlo _ _ _ _⟩
      case rest =>
        obtain ⟨B7, be, rfl, hbe, hb7, hle7, hxc⟩ := hcut
        have HBE := Lib.hid hbe
        have HB7 := Lib.hid hb7
        clear hbe hb7
        have hlt7 : B7 < wc.heap.size := blk_lt HB7.out
        go_wp2_with fail
        refine (s_IsReversed kind _).mono ?_
        rintro e _ ⟨rfl, rfl⟩
        cases hrv : isRev kind
        · have hmk : mkPart s kind kk = ⟨kind, s.ts, be, s.hops.drop kk⟩ := by unfold mkPart; rw [hrv, HBE.out]; simp
          rw [hmk] at HMP
          clear hmk
          have hcp2 : (kk : Int) ≤ cap := by omega
          have hcp3 : ¬ cap = kk := by omega
          obtain ⟨dl, hdl⟩ : ∃ dl, dl = s.hops.drop kk := ⟨_, rfl⟩
          have hdn : dl.length = s.hops.length - kk := by rw [hdl]; simp
          have hcb : dl.length ≤ 1000 := by omega
          have HDN := Lib.hid hdn
          clear hdn
          rw [← hdl] at HMP
          have HDL := Lib.hid hdl
          have cb := blk3 (hxc.block HB.out.1)
          have RS : RdS Hop.rep wc (.slice (some ⟨b, off + kk * 5, none⟩) (s.hops.length - kk) (cap - kk)) dl := by rw [hdl]; exact (r.ext (hx0.trans hxc)).suf kk (by omega)
          clear hdl
          have cb2 := blk3 (Ext.block (hxc.alloc (.cells #[] 44)) HB.out.1)
          go_wp2_with (at_builtin; refine appE E Hop.flen Hop.one rfl _ _ rfl dl rfl (OwnF.emptyAt (f := Hop.f) (n := 5) (base := wc.heap.size) (by simp) (by omega)) rfl (RS.ext ((Ext.refl _).alloc _)) (by omega) (by unfold maxLen; omega) (by simp) ?_)
          intro v' w' ho' hx'
          have hx2 : Ext wc w' := ((Ext.refl wc).alloc _).trans hx'
          have HO := Lib.hid ho'
          obtain ⟨oo, co, rfl, _⟩ := (OwnF.rd (hf := Hop.flen) ho').shape
          clear ho' cb cb2
          have hb7' := hx2.block HB7.out
          have c7 := blk4 hb7'
          have f73 := fr_of hb7' 3
          obtain ⟨w5, hw5, hb5, hc5⟩ := one_set hb7' 3 (.slice oo dl.length co)
          simp only [List.setIfInBounds_toArray, List.set_cons_succ, List.set_cons_zero] at hb5
          have HW5 := Lib.hid hw5
          clear hw5 hb7'
          go_upto_region 6 with (fail)
          rw [← HW5.out]
          clear HW5 c7 f73
          have ho5 := HO.out.chg hc5 (fun q hq e => by have h1 := (HO.out.block q hq).1; have h2 : q = B7 := e; omega)
          have hx5 : Ext W0 w5 := (hxc.trans hx2).chg hc5 (fun i hi => by have h1 : i = B7 := hi; omega)
          have c5 := blk4 hb5
          have hb6 := hx5.block HB.out.2
          have c6 := blk4 hb6
          have g0 := fr_of hb6 0
          have g1 := fr_of hb6 1
          have g2 := fr_of hb6 2
          have g3 := fr_of hb6 3
          clear HO
          go_wp2_with fail
          refine bodyPost_ret (v := .agg #[.int .i64 kind, .int .i64 s.ts, .int .i64 be, .slice oo dl.length co]) (by simp [results, Tryz.results236, go_sem, c6]) rfl ⟨.slice oo dl.length co, ?_, ?_, ?_⟩
          · rw [HMP.out]
          · rw [HMP.out]
            have hlo : w.heap.size + 1 < wc.heap.size := by omega
            exact (((((ho5.set (by simp; omega) _).set (by simp; omega) _).set (by simp; omega) _).set (by simp; omega) _)).mono (by omega)
          · exact ((((hx0.trans hx5).setCell (by simp) _).setCell (by simp) _).setCell (by simp) _).setCell (by simp) _
        · have hmk : mkPart s kind kk = ⟨kind, s.ts, betaAt s s.hops.length, (s.hops.drop kk).reverse⟩ := by unfold mkPart; rw [hrv]; simp
          rw [hmk] at HMP
          clear hmk
          have cb := blk3 (hxc.block HB.out.1)
          have c7 := blk4 HB7.out
          have f72 := fr_of HB7.out 2
          go_wp2_with fail
          refine (s_BetaAt s _ (s.hops.length : Int) _ (r.ext (hx0.trans hxc)) (by omega)).mono ?_
          rintro e w1 ⟨rfl, h1⟩
          generalize hb2 : betaAt s s.hops.length = b2
          have HB2 := Lib.hid hb2
          clear hb2 cb c7 f72
          have hb7' := h1.block HB7.out
          have cb := blk3 ((hxc.trans h1).block HB.out.1)
          have c7 := blk4 hb7'
          have f72 := fr_of hb7' 2
          obtain ⟨w5, hw5, hb5, hc5⟩ := one_set hb7' 2 (.int .i64 b2)
          simp only [List.setIfInBounds_toArray, List.set_cons_succ, List.set_cons_zero] at hb5
          have HW5 := Lib.hid hw5
          clear hw5 hb7'
          go_upto_region 8 with (fail)
          rw [← HW5.out]
          clear HW5 cb c7 f72
          have hx5 : Ext W0 w5 := (hxc.trans h1).chg hc5 (fun i hi => by have h1 : i = B7 := hi; omega)
          have hlt5 : B7 < w5.heap.size := blk_lt hb5
          have HB5 := Lib.hid hb5
          clear hb5 hc5 h1
          have cb := blk3 (hx5.block HB.out.1)
          go_wp2_with fail
          clear cb
          go_loopg [8] (s.hops.length - kk) (fun gk i wr => i = .int .i64 ((gk : Int) + kk - 1) ∧ gk + kk ≤ s.hops.length ∧ (∃ ok ck, Hid (wr.heap[B7]? = some (.cells #[.int .i64 kind, .int .i64 s.ts, .int .i64 b2, .slice ok (s.hops.length - (gk + kk)) ck] 47 (0, 0))) ∧ OwnF Hop.f 5 w5.heap.size 44 wr (.slice ok (s.hops.length - (gk + kk)) ck) (s.hops.drop (gk + kk)).reverse) ∧ w5.heap.size ≤ wr.heap.size ∧ Ext W0 wr)
          case atStart =>
            have e1 : s.hops.length - kk + kk = s.hops.length := by omega
            refine ⟨congrArg (Value.int .i64) (by omega), by omega, ⟨none, 0, ?_, ?_⟩, Nat.le_refl _, hx5⟩
            · rw [e1, Nat.sub_self]; exact HB5
            · rw [e1, Nat.sub_self, List.drop_length]; exact OwnF.nil _ _ _ _ _
          case round =>
            obtain ⟨rfl, hkl, ⟨ok, ck, HBk, hown⟩, hsw, hx⟩ := hrel
            have hcb := blk3 (hx.block HB.out.1)
            have hc3 := blk4 HBk.out
            cases gk with
            | zero =>
              have hcr := blk4 (hx.block HB.out.2)
              have g0 := fr_of (hx.block HB.out.2) 0
              have g1 := fr_of (hx.block HB.out.2) 1
              have g2 := fr_of (hx.block HB.out.2) 2
              have g3 := fr_of (hx.block HB.out.2) 3
              have hsz := hx5.size
              have e0 : ((0 : Nat) : Int) + (kk : Int) - 1 = (kk : Int) - 1 := by omega
              rw [e0]
              simp only [Nat.zero_add] at hc3 hown
              go_wp2
              refine bodyPost_ret (v := .agg #[.int .i64 kind, .int .i64 s.ts, .int .i64 b2, .slice ok (s.hops.length - kk) ck]) (by simp [results, Tryz.results236, go_sem, hcr]) rfl ⟨.slice ok (s.hops.length - kk) ck, ?_, ?_, ?_⟩
              · rw [HMP.out, HB2.out]
              · rw [HMP.out]
                exact (((((hown.set (by simp; omega) _).set (by simp; omega) _).set (by simp; omega) _).set (by simp; omega) _)).mono (by omega)
              · exact ((((hx0.trans hx).setCell (by simp) _).setCell (by simp) _).setCell (by simp) _).setCell (by simp) _
            | succ j =>
              have hj : j + kk < s.hops.length := by omega
              obtain ⟨jj, hjj⟩ : ∃ jj, jj = j + kk := ⟨_, rfl⟩
              have e9 : j + 1 + kk = jj + 1 := by omega
              rw [e9] at hc3 hown HBk hkl
              have e1 : (((j + 1 : Nat) : Int) + (kk : Int) - 1) = (jj : Int) := by omega
              rw [e1]
              rw [← hjj] at hj
              have hkj : (kk : Int) ≤ (jj : Int) := by omega
              have HJJ := Lib.hid hjj
              clear e1 e9 hjj
              obtain ⟨b', off', hbo, hc⟩ := Hop.at (r.ext (hx0.trans hx)) jj hj
              cases hbo
              have hln : (s.hops.drop (jj + 1)).reverse.length + 1 ≤ 1048576 := by simp; omega
              have HE := Lib.hid (rev_drop hj)
              have hle : (s.hops.drop jj).reverse.length = (s.hops.drop (jj + 1)).reverse.length + 1 := by simp; omega
              have HLE := Lib.hid hle; clear hle
              generalize (s.hops.drop (jj + 1)).reverse = out at *
              have hj0 : (0 : Int) ≤ (jj : Int) := Int.natCast_nonneg _
              have hj1 : (jj : Int) < (s.hops.length : Int) := by omega
              go_wp2_with fail
              refine planStep (.blk [0, 1, 2, 3, 4, 5, 6] (.one 7 (.one 8 (.blk [9] (.one 10 .done))))) [8, 10] (by kernel_rfl) (by kernel_rfl) ?_
              refine blkStep (fun K HK => ?_)
              simp only [pick, List.filterMap_cons, List.filterMap_nil, List.getElem?_toArray, List.getElem?_cons_zero, List.getElem?_cons_succ]
              go_wp2_with fail
              refine HK.out _ _ ?_
              clear HK K
              refine oneStep (fun K HK => ?_)
              simp only [pick, List.filterMap_cons, List.filterMap_nil, List.getElem?_toArray, List.getElem?_cons_zero, List.getElem?_cons_succ]
              go_wp2_with fail
              refine HK.out _ _ ((Ext.refl _).alloc _) ?_
              clear HK K
              refine badStep (by kernel_rfl) (fun K HK => ?_)
              simp only [pick, List.filterMap_cons, List.filterMap_nil, List.getElem?_toArray, List.getElem?_cons_zero, List.getElem?_cons_succ]
              refine app1 E Hop.flen Hop.one rfl _ _ rfl s.hops[jj] rfl (OwnF.ext hown ((Ext.refl _).drew.alloc _)) rfl (by exact blk_list s.hops[jj].f (blk_new wr _)) (by omega) (by unfold maxLen; omega) (by exact Nat.le_trans hsw ((Ext.refl wr).drew.alloc _).size) ?_
              intro v' w' ho' hg'
              have hsw' : w5.heap.size ≤ w'.heap.size := Nat.le_trans (Nat.le_trans hsw ((Ext.refl wr).drew.alloc _).size) hg'.size
              have hx' := Ext.app (hx.drew.alloc _) hg' hown hx5.size
              have hb3' := own_ne (OwnF.ext hown ((Ext.refl _).drew.alloc _)) (Ext.block ((Ext.refl _).drew.alloc _) HBk.out) (by decide) hg'
              rw [HE.out] at ho'
              obtain ⟨on, cn, hve, _⟩ := (OwnF.rd (hf := Hop.flen) ho').shape
              rw [show (s.hops.drop jj).reverse.length = s.hops.length - jj from by simp] at hve
              subst hve
              have c3' := blk4 hb3'
              have f3' := fr_of hb3' 3
              have hb4 := blk_set hb3' 3 (.slice on (s.hops.length - jj) cn)
              simp only [List.setIfInBounds_toArray, List.set_cons_succ, List.set_cons_zero] at hb4
              have HB4 := Lib.hid hb4; clear hb4 hb3'
              have hx4 := hx'.setCell (p := ⟨B7, 3, none⟩) (by simp; omega) (.slice on (s.hops.length - jj) cn)
              have HO4 := Lib.hid (ho'.set (p := ⟨B7, 3, none⟩) (by simpa using hlt5) (.slice on (s.hops.length - jj) cn))
              clear hg' ho'
              go_wp2_with fail
              refine HK.out _ _ ?_
              clear HK K
              refine blkStep (fun K HK => ?_)
              simp only [pick, List.filterMap_cons, List.filterMap_nil, List.getElem?_toArray, List.getElem?_cons_zero, List.getElem?_cons_succ]
              go_wp2_with fail
              refine HK.out _ _ ?_
              clear HK K
              refine badStep (by kernel_rfl) (fun K HK => ?_)
              simp only [pick, List.filterMap_cons, List.filterMap_nil, List.getElem?_toArray, List.getElem?_cons_zero, List.getElem?_cons_succ]
              go_wp2_with fail
              refine HK.out _ _ ?_
              clear HK K
              refine doneStep (by kernel_rfl) ?_
              go_wp2_with fail
              go_roundg j
              case measure => omega
              case rel => exact ⟨congrArg (Value.int .i64) (by have h1 := HJJ.out; omega), by have h1 := HJJ.out; omega, ⟨on, cn, by rw [← HJJ.out]; exact HB4, by rw [← HJJ.out]; exact HO4.out⟩, by simpa using hsw', hx4⟩

end
section
open Go.ChangeShapes Go.WideShapes Go.ChangeAt Go.RowKit Go.Deep

section
variable {α : Type} {O : Own α} {a b : Nat} {w w' : World} {v : Value} {l : List α}
theorem Own.at1g {g : Nat} (h : O.own (rng a b) w v l) (c : Chg (at1 g) w w') (hg : g < a ∨ b ≤ g) : O.own (rng a b) w' v l :=
  O.kept h c (fun k hk e => by have e' : k = g := e; have h1 := hk.1; have h2 := hk.2; omega)
theorem Own.lo {a' : Nat} (h : O.own (rng a b) w v l) (ha : a' ≤ a) : O.own (rng a' b) w v l := O.mono h (fun _ hk => ⟨Nat.le_trans ha hk.1, hk.2⟩)
theorem Own.upTo {c : Nat} (h : O.own (rng a b) w v l) (hc : w.heap.size ≤ c) : O.own (rng a c) w v l := O.mono (O.inb h) (fun _ hk => ⟨hk.1.1, Nat.lt_of_lt_of_le hk.2 hc⟩)
theorem Own.stR {g : Nat} (h : O.own (rng a b) w v l) (hg : g < a ∨ b ≤ g) : St g O.rep w v l := fun _ c => O.rd (Own.at1g h c hg)
theorem Own.chgR {S : Nat → Prop} (h : O.own (rng a b) w v l) (c : Chg S w w') (hs : ∀ k, S k → k < a ∨ b ≤ k) : O.own (rng a b) w' v l :=
  O.kept h c (fun k hk e => by have h1 := hk.1; have h2 := hk.2; have := hs k e; omega)
end
/-- A row that is only read: it reads the same whatever becomes of the blocks beside its own. -/
def Own.keep {α : Type} (r : Rep α) : Own α where
  rep := r
  own S w v l := ∀ w', Chg (fun b => ¬ S b) w w' → RdS r w' v l
  rd h := h _ (Chg.refl _ _)
  mono h hs := fun w' c => h w' (c.mono (fun _ hk hS => hk (hs _ hS)))
  kept h c hs := fun w2 c2 => h w2 ((c.mono (fun b hb hS => hs b hS hb)).trans c2)
  nil _ := fun w' _ => RdS.nil _ w'
  inb h := fun w' c => h w' ⟨c.os, c.tape, c.output, c.size, fun k hk hn => c.block k hk (fun hh => hn (fun hS => hh ⟨hS, hk⟩))⟩
theorem Own.toKeep {α : Type} {O : Own α} {S : Nat → Prop} {w : World} {v : Value} {l : List α} (h : O.own S w v l) : (Own.keep O.rep).own S w v l := fun _ c => O.rd (O.kept h c (fun _ hb hn => hn hb))
theorem Own.ofFr {α : Type} {f : α → List Value} {n : Nat} {hf : ∀ a, (f a).length = n} {e : TypeId} {base m : Nat} {w : World} {v : Value} {l : List α} (h : OwnF f n base e w v l) (hm : w.heap.size ≤ m) : (Own.flat f n hf e).own (rng base m) w v l :=
  Own.mono _ (Own.ofF h) (fun _ hk => ⟨hk.1, Nat.lt_of_lt_of_le hk.2 hm⟩)
theorem Own.toF {α : Type} {f : α → List Value} {n : Nat} {hf : ∀ a, (f a).length = n} {e : TypeId} {a b : Nat} {w : World} {v : Value} {l : List α} (h : (Own.flat f n hf e).own (rng a b) w v l) : OwnF f n a e w v l := by
  obtain ⟨h1, h2⟩ := h
  obtain ⟨h3, h4⟩ := h1
  refine ⟨h3, ?_⟩
  rcases h4 with h4 | ⟨g, cap, cur, rfl, hb, hg, r⟩
  · exact .inl h4
  · exact .inr ⟨g, cap, cur, rfl, (h2 g rfl).1, hg, r⟩
section
variable {α β : Type} {n : Nat} {c : α → Value → List Value} {hc : ∀ a v, (c a v).length = n} {sub : α → List β} {e : TypeId} {I : Own β}
/-- A literal row whose elements hold slices. -/
theorem nest_lit {w : World} (qs : List (Cap α)) (lo : Nat) (hlo : lo ≤ w.heap.size) (hm : qs.length ≤ maxLen)
    (hq : ∀ q ∈ qs, I.own q.set w q.val (sub q.dat) ∧ ∀ b, q.set b → lo ≤ b ∧ b < w.heap.size) (hd : ∀ (i j : Nat) (hi : i < qs.length) (hj : j < qs.length), i ≠ j → ∀ b, qs[i].set b → ¬ qs[j].set b) :
    (Own.nest n c hc sub e I).own (rng lo (w.heap.size + 1)) (w.alloc (.cells (qs.flatMap (capF c)).toArray e)) (.slice (some ⟨w.heap.size, 0, none⟩) qs.length qs.length) (qs.map (·.dat)) := by
  have ho := OwnF.lit (f := capF c) (n := n) (fun q => hc q.dat q.val) 0 e w qs (Nat.zero_le _) hm
  refine ⟨qs, rfl, ho, fun k hk => ?_, fun q h => ⟨Own.ext (hq q h).1 ((Ext.refl w).alloc _), fun b hb => ?_⟩, hd⟩
  · cases hk; exact ⟨hlo, Nat.lt_succ_self _⟩
  · obtain ⟨h1, h2⟩ := (hq q h).2 b hb
    refine ⟨⟨h1, by omega⟩, fun e => ?_, by simp; omega⟩
    have : w.heap.size = b := by simpa [Value.ownBlock] using e
    omega
end
/-- What reads the same whatever becomes of the blocks of S. -/
def KS {α : Type} (S : Nat → Prop) (r : Rep α) (w : World) (v : Value) (l : List α) : Prop := ∀ w', Chg S w w' → RdS r w' v l
theorem KS.rd {α : Type} {S : Nat → Prop} {r : Rep α} {w : World} {v : Value} {l : List α} (h : KS S r w v l) : RdS r w v l := h w (Chg.refl _ _)
theorem KS.step {α : Type} {S T : Nat → Prop} {r : Rep α} {w w' : World} {v : Value} {l : List α} (h : KS S r w v l) (c : Chg T w w') (hs : ∀ b, T b → S b) : KS S r w' v l := fun w2 c2 => h w2 ((c.mono hs).trans c2)
theorem KS.ext {α : Type} {S : Nat → Prop} {r : Rep α} {w w' : World} {v : Value} {l : List α} (h : KS S r w v l) (c : Ext w w') : KS S r w' v l := fun w2 c2 => h w2 ((Chg.ofExt c).trans c2)
theorem KS.wide {α : Type} {S T : Nat → Prop} {r : Rep α} {w : World} {v : Value} {l : List α} (h : KS S r w v l) (hs : ∀ b, T b → S b ∨ w.heap.size ≤ b) : KS T r w v l :=
  fun w2 c => h w2 ⟨c.os, c.tape, c.output, c.size, fun k hk hn => c.block k hk (fun ht => by rcases hs k ht with h1 | h1; exact hn h1; omega)⟩
theorem KS.ofOwn {α : Type} {O : Own α} {S T : Nat → Prop} {w : World} {v : Value} {l : List α} (h : O.own S w v l) (hs : ∀ b, T b → ¬ S b) : KS T O.rep w v l := fun _ c => O.rd (O.kept h c (fun b hb ht => hs b ht hb))
theorem KS.ofF {α : Type} {n : Nat} {f : α → List Value} {hf : ∀ a, (f a).length = n} {base : Nat} {e : TypeId} {w : World} {v : Value} {l : List α} {T : Nat → Prop} (h : OwnF f n base e w v l) (hs : ∀ b, T b → b < base ∨ w.heap.size ≤ b) : KS T (Rep.flat n f hf) w v l :=
  fun _ c => OwnF.rd (h.chg c (fun k hk e => by have h1 := (h.block k hk).1; have h2 := (h.block k hk).2; rcases hs k e with h3 | h3 <;> omega))
theorem KS.st {α : Type} {S : Nat → Prop} {r : Rep α} {g : Nat} {w : World} {v : Value} {l : List α} (h : KS S r w v l) (hg : S g) : St g r w v l := fun w' c => h w' (c.mono (fun b hb => by have e : b = g := hb; rw [e]; exact hg))
end
section
open Go.ChangeShapes Go.WideShapes Go.ChangeAt Go.RowKit Go.Deep

set_option maxRecDepth 100000 in
set_option maxHeartbeats 8000000 in
theorem s_l22Meet (a b : Seg) (va vb : Value) (w : World) (ra : RdS Hop.rep w va a.hops) (rb : RdS Hop.rep w vb b.hops) (hla : a.hops.length ≤ 1000) (hlb : b.hops.length ≤ 1000) :
    Calls Tryz.prog 235 #[.agg #[.int .i64 a.ts, .int .i64 a.beta, va], .agg #[.int .i64 b.ts, .int .i64 b.beta, vb]] w fun e w' => ∃ (v : Value) (l : List Part), e = .returned (.agg #[v]) ∧ (l = [] ∨ ∃ i k : Nat, i < a.hops.length ∧ k < b.hops.length ∧ l = [makePart a 1 i, makePart b 4 k]) ∧ Part.own.own (rng w.heap.size w'.heap.size) w' v l ∧ Ext w w' := by
  obtain ⟨o_a, c_a, rfl, _⟩ := ra.shape
  obtain ⟨o_b, c_b, rfl, _⟩ := rb.shape
  have hx0 := ext3 w (.cells #[.int .i64 a.ts, .int .i64 a.beta, .slice o_a a.hops.length c_a] 217) (.cells #[.int .i64 b.ts, .int .i64 b.beta, .slice o_b b.hops.length c_b] 217) (.cells #[.slice none 0 0] 26)
  have HB := Lib.hid (al3 w (.cells #[.int .i64 a.ts, .int .i64 a.beta, .slice o_a a.hops.length c_a] 217) (.cells #[.int .i64 b.ts, .int .i64 b.beta, .slice o_b b.hops.length c_b] 217) (.cells #[.slice none 0 0] 26))
  obtain ⟨W0, hW0⟩ : ∃ W0 : World, W0 = ((w.alloc (.cells #[.int .i64 a.ts, .int .i64 a.beta, .slice o_a a.hops.length c_a] 217)).alloc (.cells #[.int .i64 b.ts, .int .i64 b.beta, .slice o_b b.hops.length c_b] 217)).alloc (.cells #[.slice none 0 0] 26) := ⟨_, rfl⟩
  rw [← hW0] at HB hx0
  have hs0 : W0.heap.size = w.heap.size + 3 := by rw [hW0]; simp
  go_enter Tryz.func235, Tryz.ntmps235
  go_upto_region 1 with (fail)
  rw [← hW0]
  clear hW0
  have cb := blk3 HB.out.1
  go_wp2_with fail
  refine (s_SegmentASes a _ _ (ra.ext hx0) (by omega)).mono ?_
  rintro e w1 ⟨v1, rfl, o1, h1⟩
  obtain ⟨la, hla2⟩ : ∃ la, la = a.hops.map (·.asn) := ⟨_, rfl⟩
  rw [← hla2] at o1
  have HLA : Hid (la.length = a.hops.length) := Lib.hid (by rw [hla2]; simp)
  clear hla2
  obtain ⟨oa, ca, rfl, _⟩ := (ints_rep o1).shape
  have r1 := ints_rep o1
  clear o1 cb
  have cb := blk3 (h1.block HB.out.2.1)
  go_wp2_with fail
  refine (s_SegmentASes b _ _ (rb.ext (hx0.trans h1)) (by omega)).mono ?_
  rintro e w2 ⟨v2, rfl, o2, h2⟩
  obtain ⟨lb, hlb2⟩ : ∃ lb, lb = b.hops.map (·.asn) := ⟨_, rfl⟩
  rw [← hlb2] at o2
  have HLB : Hid (lb.length = b.hops.length) := Lib.hid (by rw [hlb2]; simp)
  clear hlb2
  obtain ⟨ob, cb', rfl, _⟩ := (ints_rep o2).shape
  have r2 := ints_rep o2
  clear o2 cb
  have hx2 := h1.trans h2
  go_wp2_with fail
  go_loopg [7] la.length (fun gk i wr => i = .int .i64 ((gk : Int) - 1) ∧ gk ≤ la.length ∧ Ext w2 wr)
  case atStart => exact ⟨rfl, Nat.le_refl _, Ext.refl _⟩
  case round =>
    obtain ⟨rfl, hkl, hx⟩ := hrel
    cases gk with
    | zero =>
      have hb4 := (hx2.trans hx).block HB.out.2.2
      have c4 := blk1 hb4
      have g0 := fr_of hb4 0
      have hsz := (hx2.trans hx).size
      go_wp2
      refine bodyPost_ret (v := .agg #[.slice none 0 0]) (by simp [results, Tryz.results235, go_sem, c4]) rfl ⟨_, [], rfl, .inl rfl, ?_, ?_⟩
      · exact Own.mono _ (Part.own.nil _) (fun _ h => h.elim)
      · exact (hx0.trans (hx2.trans hx)).setCell (by simp; omega) _
    | succ j =>
      have e1 : (((j + 1 : Nat) : Int) - 1) = (j : Int) := by omega
      rw [e1]
      clear e1
      have hj0 : (0 : Int) ≤ (j : Int) := Int.natCast_nonneg _
      have hj : j < la.length := by omega
      obtain ⟨ba, offa, rfl, ha⟩ := ints_at (r1.ext (h2.trans hx)) j hj
      go_wp2_with fail
      obtain ⟨wo, hwo⟩ : ∃ wo : World, wo = wr := ⟨_, rfl⟩
      subst hwo
      go_loopg [8] lb.length (fun gk i wr => i = .int .i64 ((gk : Int) - 1) ∧ gk ≤ lb.length ∧ Ext wo wr)
      case atStart => exact ⟨rfl, Nat.le_refl _, Ext.refl _⟩
      case round =>
        obtain ⟨rfl, hml, hy⟩ := hrel
        cases gk with
        | zero =>
          go_wp2
          go_roundg j
          case measure => omega
          case rel => exact ⟨rfl, by omega, hx.trans hy⟩
        | succ m =>
          have e2 : (((m + 1 : Nat) : Int) - 1) = (m : Int) := by omega
          rw [e2]
          clear e2
          have hm0 : (0 : Int) ≤ (m : Int) := Int.natCast_nonneg _
          have hm : m < lb.length := by omega
          obtain ⟨bb, offb, rfl, hb⟩ := ints_at (r2.ext (hx.trans hy)) m hm
          have ha2 := hy.cell ha
          go_upto_region 9 with (fail)
          refine planStep (.blk [0, 1, 2, 3, 4, 5, 6, 7, 8] .done) [] (by kernel_rfl) (by kernel_rfl) ?_
          have hxd : Ext wr wr.drew := (Ext.refl _).drew
          generalize wr.drew = wd at hxd ⊢
          have ha3 := hxd.cell ha2
          have hb3 := hxd.cell hb
          have hja : (j : Int) < (la.length : Int) := by omega
          have hmb : (m : Int) < (lb.length : Int) := by omega
          refine blkStep (fun K HK => ?_)
          simp only [pick, List.filterMap_cons, List.filterMap_nil, List.getElem?_toArray, List.getElem?_cons_zero, List.getElem?_cons_succ]
          go_wp2_with fail
          refine HK.out _ _ ?_
          clear HK K
          refine doneStep (by kernel_rfl) ?_
          have hx3 := hx2.trans (hx.trans (hy.trans hxd))
          clear ha hb ha2 ha3 hb3
          cases heq : (la[j] == lb[m])
          · go_wp2_with fail
            go_roundg m
            case measure => omega
            case rel => exact ⟨rfl, by omega, hy.trans hxd⟩
          · go_upto_region 10 with (fail)
            clear r1 r2
            refine planStep (.blk [0, 1, 3, 4] (.one 2 (.one 5 (.one 6 (.blk [7] (.one 8 .done)))))) [8] (by kernel_rfl) (by kernel_rfl) ?_
            replace hx3 := hx3.trans (Ext.refl wd).drew
            generalize wd.drew = we at hx3 ⊢
            have cb1 := blk3 (hx3.block HB.out.1)
            have cb2 := blk3 (hx3.block HB.out.2.1)
            refine blkStep (fun K HK => ?_)
            simp only [pick, List.filterMap_cons, List.filterMap_nil, List.getElem?_toArray, List.getElem?_cons_zero, List.getElem?_cons_succ]
            go_wp2_with fail
            refine HK.out _ _ ?_
            clear HK K
            clear cb1 cb2
            have hja2 := HLA.out
            have hmb2 := HLB.out
            refine oneStep (fun K HK => ?_)
            simp only [pick, List.filterMap_cons, List.filterMap_nil, List.getElem?_toArray, List.getElem?_cons_zero, List.getElem?_cons_succ]
            go_wp2_with fail
            refine (s_MakePart a _ 1 (j : Int) _ (ra.ext (hx0.trans hx3)) hla).mono ?_
            rintro e wA ⟨uA, rfl, oA, hzA⟩
            obtain ⟨pA, hpA⟩ : ∃ pA, pA = makePart a 1 j := ⟨_, rfl⟩
            rw [← hpA] at oA ⊢
            have HPA := Lib.hid hpA
            clear hpA
            obtain ⟨o_p, c_p, rfl, _⟩ := (OwnF.rd (hf := Hop.flen) oA).shape
            go_wp2_with fail
            refine HK.out _ _ hzA ?_
            clear HK K
            refine oneStep (fun K HK => ?_)
            simp only [pick, List.filterMap_cons, List.filterMap_nil, List.getElem?_toArray, List.getElem?_cons_zero, List.getElem?_cons_succ]
            go_wp2_with fail
            refine (s_MakePart b _ 4 (m : Int) _ (rb.ext (hx0.trans (hx3.trans hzA))) hlb).mono ?_
            rintro e wB ⟨uB, rfl, oB, hzB⟩
            obtain ⟨pB, hpB⟩ : ∃ pB, pB = makePart b 4 m := ⟨_, rfl⟩
            rw [← hpB] at oB ⊢
            have HPB := Lib.hid hpB
            clear hpB
            obtain ⟨o_q, c_q, rfl, _⟩ := (OwnF.rd (hf := Hop.flen) oB).shape
            go_wp2_with fail
            refine HK.out _ _ hzB ?_
            clear HK K
            have hx5 := hx3.trans (hzA.trans hzB)
            have LIT := nest_lit (w := wB) (c := Part.c) (hc := Part.clen) (sub := (·.hops)) (I := Own.flat Hop.f 5 Hop.flen 44) (e := 47) [⟨pA, .slice o_p pA.hops.length c_p, rng we.heap.size wA.heap.size⟩, ⟨pB, .slice o_q pB.hops.length c_q, rng wA.heap.size wB.heap.size⟩] we.heap.size (hzA.trans hzB).size (by simp [maxLen])
              (fun q hq => by
                have sA := hzA.size
                have sB := hzB.size
                rcases List.mem_cons.1 hq with rfl | hq
                · exact ⟨Own.ext (O := Own.flat Hop.f 5 Hop.flen 44) (Own.ofF oA) hzB, fun b hb => ⟨hb.1, Nat.lt_of_lt_of_le hb.2 sB⟩⟩
                · obtain rfl := List.mem_singleton.1 hq
                  exact ⟨Own.ofF oB, fun b hb => ⟨Nat.le_trans sA hb.1, hb.2⟩⟩)
              (fun i j hi hj hne b h1 h2 => by
                have k1 : i = 0 ∨ i = 1 := by simp at hi; omega
                have k2 : j = 0 ∨ j = 1 := by simp at hj; omega
                rcases k1 with rfl | rfl <;> rcases k2 with rfl | rfl
                · exact hne rfl
                · have a1 := h1.2; have a2 := h2.1; omega
                · have a1 := h1.1; have a2 := h2.2; omega
                · exact hne rfl)
            have HLIT := Lib.hid LIT
            clear LIT oA oB
            refine oneStep (fun K HK => ?_)
            simp only [pick, List.filterMap_cons, List.filterMap_nil, List.getElem?_toArray, List.getElem?_cons_zero, List.getElem?_cons_succ]
            go_wp2_with fail
            refine HK.out _ _ ((Ext.refl _).alloc _) ?_
            clear HK K
            refine blkStep (fun K HK => ?_)
            simp only [pick, List.filterMap_cons, List.filterMap_nil, List.getElem?_toArray, List.getElem?_cons_zero, List.getElem?_cons_succ]
            go_wp2_with fail
            refine HK.out _ _ ?_
            clear HK K
            obtain ⟨LW, hLW⟩ : ∃ LW : World, LW = wB.alloc (.cells #[.int .i64 pA.kind, .int .i64 pA.ts, .int .i64 pA.beta, .slice o_p pA.hops.length c_p, .int .i64 pB.kind, .int .i64 pB.ts, .int .i64 pB.beta, .slice o_q pB.hops.length c_q] 47) := ⟨_, rfl⟩
            have hxL : Ext wB LW := by rw [hLW]; exact (Ext.refl _).alloc _
            have HL2 : Hid (Part.own.own (rng we.heap.size (wB.heap.size + 1)) LW (.slice (some ⟨wB.heap.size, 0, none⟩) 2 2) [pA, pB]) := Lib.hid (by rw [hLW]; exact HLIT.out)
            rw [← hLW]
            have hsL : LW.heap.size = wB.heap.size + 1 := by rw [hLW]; simp
            clear hLW HLIT
            have hx6 := hx5.trans hxL
            have hb4 := hx6.block HB.out.2.2
            have c4 := blk1 hb4
            have g0 := fr_of hb4 0
            have hsz := hx3.size
            refine badStep (by kernel_rfl) (fun K HK => ?_)
            simp only [pick, List.filterMap_cons, List.filterMap_nil, List.getElem?_toArray, List.getElem?_cons_zero, List.getElem?_cons_succ]
            go_wp2_with fail
            refine HK.out _ _ ?_
            clear HK K
            refine doneStep (by kernel_rfl) ?_
            go_wp2_with fail
            refine bodyPost_ret (v := .agg #[.slice (some ⟨wB.heap.size, 0, none⟩) 2 2]) (by simp [results, Tryz.results235, go_sem, c4]) rfl ⟨_, [pA, pB], rfl, .inr ⟨j, m, by omega, by omega, by rw [HPA.out, HPB.out]⟩, ?_, ?_⟩
            · have hset : Chg (at1 (w.heap.size + 1 + 1)) LW (LW.setCell ⟨w.heap.size + 1 + 1, 0, none⟩ (.slice (some ⟨wB.heap.size, 0, none⟩) 2 2)) := Chg.setC (S := at1 (w.heap.size + 1 + 1)) (p := ⟨w.heap.size + 1 + 1, 0, none⟩) (Chg.refl _ _) rfl _
              exact Own.mono _ (Own.at1g HL2.out hset (.inl (by omega))) (fun b hb => ⟨by have h1 := hb.1; omega, by have h1 := hb.2; simp; omega⟩)
            · exact (hx0.trans hx6).setCell (by simp; omega) _

end
end Go.Proofs.YtjmlicmloacmaaaGreat
