/- The walk of the law over chains: a chain is undone from its end. No condition. -/
import Derived.Test.YtjjoijidlgkimaaW03c
import Derived.Test.YtjjoijidlgkimaaW03d
namespace Go.Proofs.Ytjjoijidlgkimaa
open Go.ChangeShapes Go.WideShapes Go.ChangeAt Go.RowKit Go.Deep

set_option maxRecDepth 100000 in
set_option maxHeartbeats 6000000 in
theorem l_FnChains (code : List Int) (cv : Value) (w : World) (hr : RdS Rep.byte w cv code) (hu : ∀ x ∈ code, U8 x) :
    Calls Try.prog 3 #[cv] w fun e w' => e = .returned (.bool true) ∧ Ext w w' := by
  obtain ⟨co, cc, rfl, _⟩ := hr.shape
  by_cases hbig : 1048576 < code.length
  · have hb1 : decide (1048576 < code.length) = true := by simpa using hbig
    have HB1 := Lib.hid hb1; clear hb1
    go_enter Try.func3, Try.ntmps3
    go_wp2_with fail
    refine (l_big code _ _ hr).mono ?_
    rintro e _ ⟨rfl, rfl⟩
    rw [HB1.out]
    go_wp2_with fail
    go_ret
    exact ⟨rfl, Ext.refl _⟩
  have hb1 : decide (1048576 < code.length) = false := by simpa using hbig
  have hl : code.length ≤ 1048576 := by omega
  have HB1 := Lib.hid hb1; clear hb1 hbig
  go_enter Try.func3, Try.ntmps3
  go_wp2_with fail
  refine (l_big code _ _ hr).mono ?_
  rintro e _ ⟨rfl, rfl⟩
  rw [HB1.out]
  go_wp2_with fail
  refine (s_DrawChainAdd code _ _ (hr.ext (Ext.refl _)) hu hl).mono ?_
  rintro e w1 ⟨b, v, l, rfl, hb0, hb1, hl0, hl1, ho, hz1⟩
  have hrl := ints_rep ho
  have hown := ho
  clear ho
  go_wp2_with fail
  refine (s_DrawChainSub code _ _ (hr.ext hz1) hu hl).mono ?_
  rintro e w2 ⟨c, u, m, rfl, hc0, hc1, hm0, hm1, ho, hz2⟩
  have hrm := ints_rep ho
  clear ho
  obtain ⟨lo, lc, rfl, _⟩ := hrl.shape
  obtain ⟨mo, mc, rfl, _⟩ := hrm.shape
  have hxb : (chainAdd b l != chainAdd b l) = false := by simp
  have hxc : (chainSub c m != chainSub c m) = false := by simp
  have hxb2 : (chainAdd b l == chainAdd b l) = true := by simp
  have hxc2 : (chainSub c m == chainSub c m) = true := by simp
  by_cases hb2 : b < 0
  · go_wp2_with fail
    refine (i_ChainAdd b l _ _ (hrl.ext hz2)).mono ?_
    rintro e _ ⟨rfl, rfl⟩
    go_wp2_with fail
    refine (s_ChainAdd b l _ _ (hrl.ext hz2)).mono ?_
    rintro e _ ⟨rfl, rfl⟩
    go_wp2_with fail
    refine (i_ChainSub c m _ _ (hrm.ext (Ext.refl _))).mono ?_
    rintro e _ ⟨rfl, rfl⟩
    go_wp2_with fail
    refine (s_ChainSub c m _ _ (hrm.ext (Ext.refl _))).mono ?_
    rintro e _ ⟨rfl, rfl⟩
    go_wp2_with fail
    refine (s_ChainAdd b l _ _ (hrl.ext hz2)).mono ?_
    rintro e _ ⟨rfl, rfl⟩
    go_wp2_with fail
    refine (i_ChainSub c m _ _ (hrm.ext (Ext.refl _))).mono ?_
    rintro e _ ⟨rfl, rfl⟩
    go_wp2_with fail
    refine (s_ChainSub c m _ _ (hrm.ext (Ext.refl _))).mono ?_
    rintro e _ ⟨rfl, rfl⟩
    go_wp2_with fail
    go_ret
    exact ⟨rfl, (hz1.trans hz2)⟩
  · by_cases hb3 : 2147483647 ≤ b
    · go_wp2_with fail
      refine (i_ChainAdd b l _ _ (hrl.ext hz2)).mono ?_
      rintro e _ ⟨rfl, rfl⟩
      go_wp2_with fail
      refine (s_ChainAdd b l _ _ (hrl.ext hz2)).mono ?_
      rintro e _ ⟨rfl, rfl⟩
      go_wp2_with fail
      refine (i_ChainSub c m _ _ (hrm.ext (Ext.refl _))).mono ?_
      rintro e _ ⟨rfl, rfl⟩
      go_wp2_with fail
      refine (s_ChainSub c m _ _ (hrm.ext (Ext.refl _))).mono ?_
      rintro e _ ⟨rfl, rfl⟩
      go_wp2_with fail
      refine (s_ChainAdd b l _ _ (hrl.ext hz2)).mono ?_
      rintro e _ ⟨rfl, rfl⟩
      go_wp2_with fail
      refine (i_ChainSub c m _ _ (hrm.ext (Ext.refl _))).mono ?_
      rintro e _ ⟨rfl, rfl⟩
      go_wp2_with fail
      refine (s_ChainSub c m _ _ (hrm.ext (Ext.refl _))).mono ?_
      rintro e _ ⟨rfl, rfl⟩
      go_wp2_with fail
      go_ret
      exact ⟨rfl, (hz1.trans hz2)⟩
    · have HBR : Hid (isRes b = true) := Lib.hid (isRes_true.2 ⟨by omega, by omega⟩)
      go_wp2_with fail
      refine (i_ChainAdd b l _ _ (hrl.ext hz2)).mono ?_
      rintro e _ ⟨rfl, rfl⟩
      go_wp2_with fail
      refine (s_ChainAdd b l _ _ (hrl.ext hz2)).mono ?_
      rintro e _ ⟨rfl, rfl⟩
      go_wp2_with fail
      refine (i_ChainSub c m _ _ (hrm.ext (Ext.refl _))).mono ?_
      rintro e _ ⟨rfl, rfl⟩
      go_wp2_with fail
      refine (s_ChainSub c m _ _ (hrm.ext (Ext.refl _))).mono ?_
      rintro e _ ⟨rfl, rfl⟩
      go_wp2_with fail
      go_loopg [8] l.length (fun gk i wr => ∃ k : Nat, gk + k = l.length ∧ i = .int .i64 k ∧ Hid (∀ x ∈ l.take k, isRes x = true) ∧ w2 = wr)
      case atStart => exact ⟨0, rfl, rfl, Lib.hid (fun x h => absurd h (by simp)), rfl⟩
      case round =>
        obtain ⟨k, hgk, rfl, HR, rfl⟩ := hrel
        by_cases hlt : k < l.length
        · have hg0 : gk - 1 + (k + 1) = l.length ∧ gk - 1 < gk := by omega
          have HG := Lib.hid hg0; clear hg0 hgk
          obtain ⟨b1, o1, rfl, hcell⟩ := ints_at (hrl.ext hz2) k hlt
          by_cases hr0 : l[k] < 0
          · go_wp2_with fail
            go_ret
            exact ⟨rfl, (hz1.trans hz2)⟩
          by_cases hr1 : 2147483647 ≤ l[k]
          · go_wp2_with fail
            go_ret
            exact ⟨rfl, (hz1.trans hz2)⟩
          have HN : Hid (∀ x ∈ l.take (k + 1), isRes x = true) := Lib.hid (by
            rw [List.take_succ_eq_append_getElem hlt]
            intro x hx
            rcases List.mem_append.1 hx with h | h
            · exact HR.out x h
            · rw [List.mem_singleton.1 h]; exact isRes_true.2 ⟨by omega, by omega⟩)
          go_wp2_with fail
          go_roundg (gk - 1)
          case measure => exact HG.out.2
          case rel => exact ⟨k + 1, HG.out.1, by go_num, HN, rfl⟩
        · have HRA : Hid (∀ x ∈ l, isRes x = true) := Lib.hid (by have h := HR.out; rwa [List.take_of_length_le (by omega)] at h)
          clear HR hgk
          rcases hown.2 with ⟨hve, hn⟩ | ⟨g, cap, cur, hve, _, hg, hnc, hcm, _, _⟩
          · simp only [Value.slice.injEq] at hve
            obtain ⟨rfl, hve2, rfl⟩ := hve
            clear hve2
            have HL0 := Lib.hid (List.eq_nil_of_length_eq_zero hn)
            have hl1 : ¬ (0 : Int) < l.length := by omega
            clear hn
            obtain ⟨kk, hkk⟩ : ∃ kk : Nat, kk = 0 := ⟨0, rfl⟩
            have hq1 : (chainSub (chainAdd b l) l == b) = true := by rw [beq_iff_eq]; exact chain_undone l b HBR.out HRA.out
            have hq2 : (chainAdd (chainAdd b (l.take kk)) (l.drop kk) == chainAdd b l) = true := by rw [beq_iff_eq, chainAdd_append, List.take_append_drop]
            have hq3 : (chainSub (chainAdd b l) (l.drop kk) == chainAdd b (l.take kk)) = true := by
              rw [beq_iff_eq]
              have h := chain_undone (l.drop kk) (chainAdd b (l.take kk)) (chainAdd_res b _ HBR.out) (fun x hx => HRA.out x (List.mem_of_mem_drop hx))
              rwa [chainAdd_append, List.take_append_drop] at h
            have HH := Lib.hid (show RdS Rep.int w2 (.slice none 0 0) (l.take kk) ∧ RdS Rep.int w2 (.slice none l.length 0) (l.drop kk) from ⟨by rw [hkk, HL0.out]; exact RdS.nil _ _, by rw [hkk]; exact (hrl.ext hz2)⟩)
            clear hkk
            go_wp2_with fail
            refine planStep (.blk [0, 1, 3] (.one 2 (.blk [4, 5, 6, 7, 8, 9, 11, 12, 13, 15] (.one 10 (.one 14 (.blk [16, 17, 18, 19, 20, 21, 22, 24, 25, 26, 27] (.one 23 (.one 28 (.blk [29, 30, 31] .done))))))))) [] (by kernel_rfl) (by kernel_rfl) ?_
            refine blkStep (fun K HK => ?_)
            simp only [pick, List.filterMap_cons, List.filterMap_nil, List.getElem?_toArray, List.getElem?_cons_zero, List.getElem?_cons_succ]
            go_wp2_with fail
            refine HK.out _ _ ?_
            clear HK K
            refine oneStep (fun K HK => ?_)
            simp only [pick, List.filterMap_cons, List.filterMap_nil, List.getElem?_toArray, List.getElem?_cons_zero, List.getElem?_cons_succ]
            go_wp2_with fail
            refine (sameExt (i_ChainSub (chainAdd b l) l _ _ (hrl.ext (hz2.trans ((Ext.refl _).drew))))).mono ?_
            rintro e w21 ⟨rfl, hz21⟩
            go_wp2_with fail
            refine HK.out _ _ hz21 ?_
            clear HK K
            refine blkStep (fun K HK => ?_)
            simp only [pick, List.filterMap_cons, List.filterMap_nil, List.getElem?_toArray, List.getElem?_cons_zero, List.getElem?_cons_succ]
            go_wp2_with fail
            refine HK.out _ _ ?_
            clear HK K
            refine oneStep (fun K HK => ?_)
            simp only [pick, List.filterMap_cons, List.filterMap_nil, List.getElem?_toArray, List.getElem?_cons_zero, List.getElem?_cons_succ]
            go_wp2_with fail
            refine (sameExt (i_ChainAdd b (l.take kk) _ _ (HH.out.1.ext (((Ext.refl _).drew).trans hz21)))).mono ?_
            rintro e w22 ⟨rfl, hz22⟩
            go_wp2_with fail
            refine HK.out _ _ hz22 ?_
            clear HK K
            refine oneStep (fun K HK => ?_)
            simp only [pick, List.filterMap_cons, List.filterMap_nil, List.getElem?_toArray, List.getElem?_cons_zero, List.getElem?_cons_succ]
            go_wp2_with fail
            refine (sameExt (i_ChainAdd (chainAdd b (l.take kk)) (l.drop kk) _ _ (HH.out.2.ext ((((Ext.refl _).drew).trans hz21).trans hz22)))).mono ?_
            rintro e w23 ⟨rfl, hz23⟩
            go_wp2_with fail
            refine HK.out _ _ hz23 ?_
            clear HK K
            refine blkStep (fun K HK => ?_)
            simp only [pick, List.filterMap_cons, List.filterMap_nil, List.getElem?_toArray, List.getElem?_cons_zero, List.getElem?_cons_succ]
            go_wp2_with fail
            refine HK.out _ _ ?_
            clear HK K
            refine oneStep (fun K HK => ?_)
            simp only [pick, List.filterMap_cons, List.filterMap_nil, List.getElem?_toArray, List.getElem?_cons_zero, List.getElem?_cons_succ]
            go_wp2_with fail
            refine (sameExt (i_ChainSub (chainAdd b l) (l.drop kk) _ _ (HH.out.2.ext (((((Ext.refl _).drew).trans hz21).trans hz22).trans hz23)))).mono ?_
            rintro e w24 ⟨rfl, hz24⟩
            go_wp2_with fail
            refine HK.out _ _ hz24 ?_
            clear HK K
            refine oneStep (fun K HK => ?_)
            simp only [pick, List.filterMap_cons, List.filterMap_nil, List.getElem?_toArray, List.getElem?_cons_zero, List.getElem?_cons_succ]
            go_wp2_with fail
            refine (sameExt (i_ChainAdd b (l.take kk) _ _ (HH.out.1.ext ((((((Ext.refl _).drew).trans hz21).trans hz22).trans hz23).trans hz24)))).mono ?_
            rintro e w25 ⟨rfl, hz25⟩
            go_wp2_with fail
            refine HK.out _ _ hz25 ?_
            clear HK K
            refine blkStep (fun K HK => ?_)
            simp only [pick, List.filterMap_cons, List.filterMap_nil, List.getElem?_toArray, List.getElem?_cons_zero, List.getElem?_cons_succ]
            go_wp2_with fail
            refine HK.out _ _ ?_
            clear HK K
            refine doneStep (by kernel_rfl) ?_
            go_wp2_with fail
            go_ret
            exact ⟨rfl, (((((((hz1.trans hz2).trans ((Ext.refl _).drew)).trans hz21).trans hz22).trans hz23).trans hz24).trans hz25)⟩
          cases hve
          clear hg hnc
          by_cases hl00 : ¬ 0 < l.length
          · have hl1 : ¬ (0 : Int) < l.length := by omega
            by_cases hkc : 0 < lc
            · obtain ⟨kk, hkk⟩ : ∃ kk : Nat, kk = 0 := ⟨0, rfl⟩
              have hq1 : (chainSub (chainAdd b l) l == b) = true := by rw [beq_iff_eq]; exact chain_undone l b HBR.out HRA.out
              have hq2 : (chainAdd (chainAdd b (l.take kk)) (l.drop kk) == chainAdd b l) = true := by rw [beq_iff_eq, chainAdd_append, List.take_append_drop]
              have hq3 : (chainSub (chainAdd b l) (l.drop kk) == chainAdd b (l.take kk)) = true := by
                rw [beq_iff_eq]
                have h := chain_undone (l.drop kk) (chainAdd b (l.take kk)) (chainAdd_res b _ HBR.out) (fun x hx => HRA.out x (List.mem_of_mem_drop hx))
                rwa [chainAdd_append, List.take_append_drop] at h
              have HH := Lib.hid (show RdS Rep.int w2 (.slice (some ⟨g, 0, none⟩) 0 lc) (l.take kk) ∧ RdS Rep.int w2 (.slice (some ⟨g, 0, none⟩) l.length lc) (l.drop kk) by rw [hkk]; exact halves (hown.ext hz2) 0 (Nat.zero_le _))
              clear hkk
              go_wp2_with fail
              refine planStep (.blk [0, 1, 3] (.one 2 (.blk [4, 5, 6, 7, 8, 9, 11, 12, 13, 15] (.one 10 (.one 14 (.blk [16, 17, 18, 19, 20, 21, 22, 24, 25, 26, 27] (.one 23 (.one 28 (.blk [29, 30, 31] .done))))))))) [] (by kernel_rfl) (by kernel_rfl) ?_
              refine blkStep (fun K HK => ?_)
              simp only [pick, List.filterMap_cons, List.filterMap_nil, List.getElem?_toArray, List.getElem?_cons_zero, List.getElem?_cons_succ]
              go_wp2_with fail
              refine HK.out _ _ ?_
              clear HK K
              refine oneStep (fun K HK => ?_)
              simp only [pick, List.filterMap_cons, List.filterMap_nil, List.getElem?_toArray, List.getElem?_cons_zero, List.getElem?_cons_succ]
              go_wp2_with fail
              refine (sameExt (i_ChainSub (chainAdd b l) l _ _ (hrl.ext (hz2.trans ((Ext.refl _).drew))))).mono ?_
              rintro e w26 ⟨rfl, hz26⟩
              go_wp2_with fail
              refine HK.out _ _ hz26 ?_
              clear HK K
              refine blkStep (fun K HK => ?_)
              simp only [pick, List.filterMap_cons, List.filterMap_nil, List.getElem?_toArray, List.getElem?_cons_zero, List.getElem?_cons_succ]
              go_wp2_with fail
              refine HK.out _ _ ?_
              clear HK K
              refine oneStep (fun K HK => ?_)
              simp only [pick, List.filterMap_cons, List.filterMap_nil, List.getElem?_toArray, List.getElem?_cons_zero, List.getElem?_cons_succ]
              go_wp2_with fail
              refine (sameExt (i_ChainAdd b (l.take kk) _ _ (HH.out.1.ext (((Ext.refl _).drew).trans hz26)))).mono ?_
              rintro e w27 ⟨rfl, hz27⟩
              go_wp2_with fail
              refine HK.out _ _ hz27 ?_
              clear HK K
              refine oneStep (fun K HK => ?_)
              simp only [pick, List.filterMap_cons, List.filterMap_nil, List.getElem?_toArray, List.getElem?_cons_zero, List.getElem?_cons_succ]
              go_wp2_with fail
              refine (sameExt (i_ChainAdd (chainAdd b (l.take kk)) (l.drop kk) _ _ (HH.out.2.ext ((((Ext.refl _).drew).trans hz26).trans hz27)))).mono ?_
              rintro e w28 ⟨rfl, hz28⟩
              go_wp2_with fail
              refine HK.out _ _ hz28 ?_
              clear HK K
              refine blkStep (fun K HK => ?_)
              simp only [pick, List.filterMap_cons, List.filterMap_nil, List.getElem?_toArray, List.getElem?_cons_zero, List.getElem?_cons_succ]
              go_wp2_with fail
              refine HK.out _ _ ?_
              clear HK K
              refine oneStep (fun K HK => ?_)
              simp only [pick, List.filterMap_cons, List.filterMap_nil, List.getElem?_toArray, List.getElem?_cons_zero, List.getElem?_cons_succ]
              go_wp2_with fail
              refine (sameExt (i_ChainSub (chainAdd b l) (l.drop kk) _ _ (HH.out.2.ext (((((Ext.refl _).drew).trans hz26).trans hz27).trans hz28)))).mono ?_
              rintro e w29 ⟨rfl, hz29⟩
              go_wp2_with fail
              refine HK.out _ _ hz29 ?_
              clear HK K
              refine oneStep (fun K HK => ?_)
              simp only [pick, List.filterMap_cons, List.filterMap_nil, List.getElem?_toArray, List.getElem?_cons_zero, List.getElem?_cons_succ]
              go_wp2_with fail
              refine (sameExt (i_ChainAdd b (l.take kk) _ _ (HH.out.1.ext ((((((Ext.refl _).drew).trans hz26).trans hz27).trans hz28).trans hz29)))).mono ?_
              rintro e w30 ⟨rfl, hz30⟩
              go_wp2_with fail
              refine HK.out _ _ hz30 ?_
              clear HK K
              refine blkStep (fun K HK => ?_)
              simp only [pick, List.filterMap_cons, List.filterMap_nil, List.getElem?_toArray, List.getElem?_cons_zero, List.getElem?_cons_succ]
              go_wp2_with fail
              refine HK.out _ _ ?_
              clear HK K
              refine doneStep (by kernel_rfl) ?_
              go_wp2_with fail
              go_ret
              exact ⟨rfl, (((((((hz1.trans hz2).trans ((Ext.refl _).drew)).trans hz26).trans hz27).trans hz28).trans hz29).trans hz30)⟩
            · obtain ⟨z, hz0⟩ : ∃ z : Nat, z = 0 := ⟨0, rfl⟩
              obtain rfl : lc = 0 := by omega
              clear hz0
              obtain ⟨kk, hkk⟩ : ∃ kk : Nat, kk = 0 := ⟨0, rfl⟩
              have hq1 : (chainSub (chainAdd b l) l == b) = true := by rw [beq_iff_eq]; exact chain_undone l b HBR.out HRA.out
              have hq2 : (chainAdd (chainAdd b (l.take kk)) (l.drop kk) == chainAdd b l) = true := by rw [beq_iff_eq, chainAdd_append, List.take_append_drop]
              have hq3 : (chainSub (chainAdd b l) (l.drop kk) == chainAdd b (l.take kk)) = true := by
                rw [beq_iff_eq]
                have h := chain_undone (l.drop kk) (chainAdd b (l.take kk)) (chainAdd_res b _ HBR.out) (fun x hx => HRA.out x (List.mem_of_mem_drop hx))
                rwa [chainAdd_append, List.take_append_drop] at h
              have HH := Lib.hid (show RdS Rep.int w2 (.slice (some ⟨g, 0, none⟩) 0 0) (l.take kk) ∧ RdS Rep.int w2 (.slice (some ⟨g, 0, none⟩) l.length 0) (l.drop kk) from ⟨by rw [hkk]; exact (halvesEnd (hown.ext hz2) (by omega)).1, by rw [hkk]; exact (hrl.ext hz2)⟩)
              clear hkk
              go_wp2_with fail
              refine planStep (.blk [0, 1, 3] (.one 2 (.blk [4, 5, 6, 7, 8, 9, 11, 12, 13, 15] (.one 10 (.one 14 (.blk [16, 17, 18, 19, 20, 21, 22, 24, 25, 26, 27] (.one 23 (.one 28 (.blk [29, 30, 31] .done))))))))) [] (by kernel_rfl) (by kernel_rfl) ?_
              refine blkStep (fun K HK => ?_)
              simp only [pick, List.filterMap_cons, List.filterMap_nil, List.getElem?_toArray, List.getElem?_cons_zero, List.getElem?_cons_succ]
              go_wp2_with fail
              refine HK.out _ _ ?_
              clear HK K
              refine oneStep (fun K HK => ?_)
              simp only [pick, List.filterMap_cons, List.filterMap_nil, List.getElem?_toArray, List.getElem?_cons_zero, List.getElem?_cons_succ]
              go_wp2_with fail
              refine (sameExt (i_ChainSub (chainAdd b l) l _ _ (hrl.ext (hz2.trans ((Ext.refl _).drew))))).mono ?_
              rintro e w31 ⟨rfl, hz31⟩
              go_wp2_with fail
              refine HK.out _ _ hz31 ?_
              clear HK K
              refine blkStep (fun K HK => ?_)
              simp only [pick, List.filterMap_cons, List.filterMap_nil, List.getElem?_toArray, List.getElem?_cons_zero, List.getElem?_cons_succ]
              go_wp2_with fail
              refine HK.out _ _ ?_
              clear HK K
              refine oneStep (fun K HK => ?_)
              simp only [pick, List.filterMap_cons, List.filterMap_nil, List.getElem?_toArray, List.getElem?_cons_zero, List.getElem?_cons_succ]
              go_wp2_with fail
              refine (sameExt (i_ChainAdd b (l.take kk) _ _ (HH.out.1.ext (((Ext.refl _).drew).trans hz31)))).mono ?_
              rintro e w32 ⟨rfl, hz32⟩
              go_wp2_with fail
              refine HK.out _ _ hz32 ?_
              clear HK K
              refine oneStep (fun K HK => ?_)
              simp only [pick, List.filterMap_cons, List.filterMap_nil, List.getElem?_toArray, List.getElem?_cons_zero, List.getElem?_cons_succ]
              go_wp2_with fail
              refine (sameExt (i_ChainAdd (chainAdd b (l.take kk)) (l.drop kk) _ _ (HH.out.2.ext ((((Ext.refl _).drew).trans hz31).trans hz32)))).mono ?_
              rintro e w33 ⟨rfl, hz33⟩
              go_wp2_with fail
              refine HK.out _ _ hz33 ?_
              clear HK K
              refine blkStep (fun K HK => ?_)
              simp only [pick, List.filterMap_cons, List.filterMap_nil, List.getElem?_toArray, List.getElem?_cons_zero, List.getElem?_cons_succ]
              go_wp2_with fail
              refine HK.out _ _ ?_
              clear HK K
              refine oneStep (fun K HK => ?_)
              simp only [pick, List.filterMap_cons, List.filterMap_nil, List.getElem?_toArray, List.getElem?_cons_zero, List.getElem?_cons_succ]
              go_wp2_with fail
              refine (sameExt (i_ChainSub (chainAdd b l) (l.drop kk) _ _ (HH.out.2.ext (((((Ext.refl _).drew).trans hz31).trans hz32).trans hz33)))).mono ?_
              rintro e w34 ⟨rfl, hz34⟩
              go_wp2_with fail
              refine HK.out _ _ hz34 ?_
              clear HK K
              refine oneStep (fun K HK => ?_)
              simp only [pick, List.filterMap_cons, List.filterMap_nil, List.getElem?_toArray, List.getElem?_cons_zero, List.getElem?_cons_succ]
              go_wp2_with fail
              refine (sameExt (i_ChainAdd b (l.take kk) _ _ (HH.out.1.ext ((((((Ext.refl _).drew).trans hz31).trans hz32).trans hz33).trans hz34)))).mono ?_
              rintro e w35 ⟨rfl, hz35⟩
              go_wp2_with fail
              refine HK.out _ _ hz35 ?_
              clear HK K
              refine blkStep (fun K HK => ?_)
              simp only [pick, List.filterMap_cons, List.filterMap_nil, List.getElem?_toArray, List.getElem?_cons_zero, List.getElem?_cons_succ]
              go_wp2_with fail
              refine HK.out _ _ ?_
              clear HK K
              refine doneStep (by kernel_rfl) ?_
              go_wp2_with fail
              go_ret
              exact ⟨rfl, (((((((hz1.trans hz2).trans ((Ext.refl _).drew)).trans hz31).trans hz32).trans hz33).trans hz34).trans hz35)⟩
          have hl1 : (0 : Int) < l.length := by omega
          go_wp2_with fail
          refine (l_at code _ 2 _ (hr.ext (hz1.trans hz2)) hu (by omega) (by omega) hl).mono ?_
          rintro e _ ⟨r, rfl, hr0, hr1, rfl⟩
          have hm0 := Int.emod_nonneg r (show (l.length : Int) + 1 ≠ 0 by omega)
          have hm1 := Int.emod_lt_of_pos r (show (0 : Int) < (l.length : Int) + 1 by omega)
          have HM := Lib.hid (And.intro hm0 hm1); clear hm0 hm1
          go_wp2_with fail
          obtain ⟨kk, hke⟩ : ∃ kk : Nat, r % ((l.length : Int) + 1) = kk := ⟨(r % ((l.length : Int) + 1)).toNat, (Int.toNat_of_nonneg HM.out.1).symm⟩
          have hkk : kk ≤ l.length := by have h := HM.out; omega
          rw [hke]
          clear hke HM hr0 hr1
          by_cases hkc : kk < lc
          · have hq1 : (chainSub (chainAdd b l) l == b) = true := by rw [beq_iff_eq]; exact chain_undone l b HBR.out HRA.out
            have hq2 : (chainAdd (chainAdd b (l.take kk)) (l.drop kk) == chainAdd b l) = true := by rw [beq_iff_eq, chainAdd_append, List.take_append_drop]
            have hq3 : (chainSub (chainAdd b l) (l.drop kk) == chainAdd b (l.take kk)) = true := by
              rw [beq_iff_eq]
              have h := chain_undone (l.drop kk) (chainAdd b (l.take kk)) (chainAdd_res b _ HBR.out) (fun x hx => HRA.out x (List.mem_of_mem_drop hx))
              rwa [chainAdd_append, List.take_append_drop] at h
            have HH := Lib.hid (halves (hown.ext hz2) kk hkk)
            go_wp2_with fail
            refine planStep (.blk [0, 1, 3] (.one 2 (.blk [4, 5, 6, 7, 8, 9, 11, 12, 13, 15] (.one 10 (.one 14 (.blk [16, 17, 18, 19, 20, 21, 22, 24, 25, 26, 27] (.one 23 (.one 28 (.blk [29, 30, 31] .done))))))))) [] (by kernel_rfl) (by kernel_rfl) ?_
            refine blkStep (fun K HK => ?_)
            simp only [pick, List.filterMap_cons, List.filterMap_nil, List.getElem?_toArray, List.getElem?_cons_zero, List.getElem?_cons_succ]
            go_wp2_with fail
            refine HK.out _ _ ?_
            clear HK K
            refine oneStep (fun K HK => ?_)
            simp only [pick, List.filterMap_cons, List.filterMap_nil, List.getElem?_toArray, List.getElem?_cons_zero, List.getElem?_cons_succ]
            go_wp2_with fail
            refine (sameExt (i_ChainSub (chainAdd b l) l _ _ (hrl.ext (hz2.trans ((Ext.refl _).drew))))).mono ?_
            rintro e w36 ⟨rfl, hz36⟩
            go_wp2_with fail
            refine HK.out _ _ hz36 ?_
            clear HK K
            refine blkStep (fun K HK => ?_)
            simp only [pick, List.filterMap_cons, List.filterMap_nil, List.getElem?_toArray, List.getElem?_cons_zero, List.getElem?_cons_succ]
            go_wp2_with fail
            refine HK.out _ _ ?_
            clear HK K
            refine oneStep (fun K HK => ?_)
            simp only [pick, List.filterMap_cons, List.filterMap_nil, List.getElem?_toArray, List.getElem?_cons_zero, List.getElem?_cons_succ]
            go_wp2_with fail
            refine (sameExt (i_ChainAdd b (l.take kk) _ _ (HH.out.1.ext (((Ext.refl _).drew).trans hz36)))).mono ?_
            rintro e w37 ⟨rfl, hz37⟩
            go_wp2_with fail
            refine HK.out _ _ hz37 ?_
            clear HK K
            refine oneStep (fun K HK => ?_)
            simp only [pick, List.filterMap_cons, List.filterMap_nil, List.getElem?_toArray, List.getElem?_cons_zero, List.getElem?_cons_succ]
            go_wp2_with fail
            refine (sameExt (i_ChainAdd (chainAdd b (l.take kk)) (l.drop kk) _ _ (HH.out.2.ext ((((Ext.refl _).drew).trans hz36).trans hz37)))).mono ?_
            rintro e w38 ⟨rfl, hz38⟩
            go_wp2_with fail
            refine HK.out _ _ hz38 ?_
            clear HK K
            refine blkStep (fun K HK => ?_)
            simp only [pick, List.filterMap_cons, List.filterMap_nil, List.getElem?_toArray, List.getElem?_cons_zero, List.getElem?_cons_succ]
            go_wp2_with fail
            refine HK.out _ _ ?_
            clear HK K
            refine oneStep (fun K HK => ?_)
            simp only [pick, List.filterMap_cons, List.filterMap_nil, List.getElem?_toArray, List.getElem?_cons_zero, List.getElem?_cons_succ]
            go_wp2_with fail
            refine (sameExt (i_ChainSub (chainAdd b l) (l.drop kk) _ _ (HH.out.2.ext (((((Ext.refl _).drew).trans hz36).trans hz37).trans hz38)))).mono ?_
            rintro e w39 ⟨rfl, hz39⟩
            go_wp2_with fail
            refine HK.out _ _ hz39 ?_
            clear HK K
            refine oneStep (fun K HK => ?_)
            simp only [pick, List.filterMap_cons, List.filterMap_nil, List.getElem?_toArray, List.getElem?_cons_zero, List.getElem?_cons_succ]
            go_wp2_with fail
            refine (sameExt (i_ChainAdd b (l.take kk) _ _ (HH.out.1.ext ((((((Ext.refl _).drew).trans hz36).trans hz37).trans hz38).trans hz39)))).mono ?_
            rintro e w40 ⟨rfl, hz40⟩
            go_wp2_with fail
            refine HK.out _ _ hz40 ?_
            clear HK K
            refine blkStep (fun K HK => ?_)
            simp only [pick, List.filterMap_cons, List.filterMap_nil, List.getElem?_toArray, List.getElem?_cons_zero, List.getElem?_cons_succ]
            go_wp2_with fail
            refine HK.out _ _ ?_
            clear HK K
            refine doneStep (by kernel_rfl) ?_
            go_wp2_with fail
            go_ret
            exact ⟨rfl, (((((((hz1.trans hz2).trans ((Ext.refl _).drew)).trans hz36).trans hz37).trans hz38).trans hz39).trans hz40)⟩
          · obtain rfl : lc = kk := by have h := hown.capLe.1; omega
            have hq1 : (chainSub (chainAdd b l) l == b) = true := by rw [beq_iff_eq]; exact chain_undone l b HBR.out HRA.out
            have hq2 : (chainAdd (chainAdd b (l.take lc)) (l.drop lc) == chainAdd b l) = true := by rw [beq_iff_eq, chainAdd_append, List.take_append_drop]
            have hq3 : (chainSub (chainAdd b l) (l.drop lc) == chainAdd b (l.take lc)) = true := by
              rw [beq_iff_eq]
              have h := chain_undone (l.drop lc) (chainAdd b (l.take lc)) (chainAdd_res b _ HBR.out) (fun x hx => HRA.out x (List.mem_of_mem_drop hx))
              rwa [chainAdd_append, List.take_append_drop] at h
            have HH := Lib.hid (show RdS Rep.int w2 (.slice (some ⟨g, 0, none⟩) lc lc) (l.take lc) ∧ RdS Rep.int w2 (.slice (some ⟨g, 0, none⟩) (l.length - lc) 0) (l.drop lc) from ⟨(halvesEnd (hown.ext hz2) (by have h := hown.capLe.1; omega)).1, by rw [show l.length - lc = 0 by have h := hown.capLe.1; omega]; exact (halvesEnd (hown.ext hz2) (by have h := hown.capLe.1; omega)).2⟩)
            go_wp2_with fail
            refine planStep (.blk [0, 1, 3] (.one 2 (.blk [4, 5, 6, 7, 8, 9, 11, 12, 13, 15] (.one 10 (.one 14 (.blk [16, 17, 18, 19, 20, 21, 22, 24, 25, 26, 27] (.one 23 (.one 28 (.blk [29, 30, 31] .done))))))))) [] (by kernel_rfl) (by kernel_rfl) ?_
            refine blkStep (fun K HK => ?_)
            simp only [pick, List.filterMap_cons, List.filterMap_nil, List.getElem?_toArray, List.getElem?_cons_zero, List.getElem?_cons_succ]
            go_wp2_with fail
            refine HK.out _ _ ?_
            clear HK K
            refine oneStep (fun K HK => ?_)
            simp only [pick, List.filterMap_cons, List.filterMap_nil, List.getElem?_toArray, List.getElem?_cons_zero, List.getElem?_cons_succ]
            go_wp2_with fail
            refine (sameExt (i_ChainSub (chainAdd b l) l _ _ (hrl.ext (hz2.trans ((Ext.refl _).drew))))).mono ?_
            rintro e w41 ⟨rfl, hz41⟩
            go_wp2_with fail
            refine HK.out _ _ hz41 ?_
            clear HK K
            refine blkStep (fun K HK => ?_)
            simp only [pick, List.filterMap_cons, List.filterMap_nil, List.getElem?_toArray, List.getElem?_cons_zero, List.getElem?_cons_succ]
            go_wp2_with fail
            refine HK.out _ _ ?_
            clear HK K
            refine oneStep (fun K HK => ?_)
            simp only [pick, List.filterMap_cons, List.filterMap_nil, List.getElem?_toArray, List.getElem?_cons_zero, List.getElem?_cons_succ]
            go_wp2_with fail
            refine (sameExt (i_ChainAdd b (l.take lc) _ _ (HH.out.1.ext (((Ext.refl _).drew).trans hz41)))).mono ?_
            rintro e w42 ⟨rfl, hz42⟩
            go_wp2_with fail
            refine HK.out _ _ hz42 ?_
            clear HK K
            refine oneStep (fun K HK => ?_)
            simp only [pick, List.filterMap_cons, List.filterMap_nil, List.getElem?_toArray, List.getElem?_cons_zero, List.getElem?_cons_succ]
            go_wp2_with fail
            refine (sameExt (i_ChainAdd (chainAdd b (l.take lc)) (l.drop lc) _ _ (HH.out.2.ext ((((Ext.refl _).drew).trans hz41).trans hz42)))).mono ?_
            rintro e w43 ⟨rfl, hz43⟩
            go_wp2_with fail
            refine HK.out _ _ hz43 ?_
            clear HK K
            refine blkStep (fun K HK => ?_)
            simp only [pick, List.filterMap_cons, List.filterMap_nil, List.getElem?_toArray, List.getElem?_cons_zero, List.getElem?_cons_succ]
            go_wp2_with fail
            refine HK.out _ _ ?_
            clear HK K
            refine oneStep (fun K HK => ?_)
            simp only [pick, List.filterMap_cons, List.filterMap_nil, List.getElem?_toArray, List.getElem?_cons_zero, List.getElem?_cons_succ]
            go_wp2_with fail
            refine (sameExt (i_ChainSub (chainAdd b l) (l.drop lc) _ _ (HH.out.2.ext (((((Ext.refl _).drew).trans hz41).trans hz42).trans hz43)))).mono ?_
            rintro e w44 ⟨rfl, hz44⟩
            go_wp2_with fail
            refine HK.out _ _ hz44 ?_
            clear HK K
            refine oneStep (fun K HK => ?_)
            simp only [pick, List.filterMap_cons, List.filterMap_nil, List.getElem?_toArray, List.getElem?_cons_zero, List.getElem?_cons_succ]
            go_wp2_with fail
            refine (sameExt (i_ChainAdd b (l.take lc) _ _ (HH.out.1.ext ((((((Ext.refl _).drew).trans hz41).trans hz42).trans hz43).trans hz44)))).mono ?_
            rintro e w45 ⟨rfl, hz45⟩
            go_wp2_with fail
            refine HK.out _ _ hz45 ?_
            clear HK K
            refine blkStep (fun K HK => ?_)
            simp only [pick, List.filterMap_cons, List.filterMap_nil, List.getElem?_toArray, List.getElem?_cons_zero, List.getElem?_cons_succ]
            go_wp2_with fail
            refine HK.out _ _ ?_
            clear HK K
            refine doneStep (by kernel_rfl) ?_
            go_wp2_with fail
            go_ret
            exact ⟨rfl, (((((((hz1.trans hz2).trans ((Ext.refl _).drew)).trans hz41).trans hz42).trans hz43).trans hz44).trans hz45)⟩

end Go.Proofs.Ytjjoijidlgkimaa
