/- What these laws need: FnFlips, FnForwards, FnReplies: Contracts of the steps of a path, program and reference. Contracts of the interfaces that paths use and of what revocations affect, program and reference. -/
import Derived.Test.YtikbeiafobnblaaGreatKR6
import Derived.Test.YtikbeiafobnblaaGreatKR17
namespace Go.Proofs.YtikbeiafobnblaaGreat
section
open Go.ChangeShapes Go.WideShapes Go.ChangeAt Go.RowKit Go.Deep
set_option maxRecDepth 100000 in
set_option maxHeartbeats 8000000 in
theorem i_PathSteps (x : Pth) (v : Value) (w : World) (r : RdS Part.rep w v x.parts) (hl : x.size ≤ 1048576) :
  Calls Tryz.prog 48 #[.agg #[v]] w fun e w' => ∃ v', e = .returned v' ∧ OwnF Step.f 3 w.heap.size 123 w' v' (pathSteps x.parts) ∧ Ext w w' := by
 obtain ⟨ps⟩ := x
 unfold Pth.size at hl
 dsimp only at r hl ⊢
 obtain ⟨o, cap, rfl, hsm⟩ := r.shape
 obtain ⟨E⟩ := elemStp
 have hx0 : Ext w (w.alloc (.cells #[.slice o ps.length cap] 26)) := (Ext.refl _).alloc _
 go_enter Tryz.func48, Tryz.ntmps48
 go_wp2
 go_loopg [3, 12] ps.length (fun gk out i wr => ∃ k : Nat, gk + k = ps.length ∧ i = .int .i64 k ∧ OwnF Step.f 3 w.heap.size 123 wr out (partsTo ps k) ∧ Ext w wr)
 case atStart => exact ⟨0, rfl, rfl, OwnF.nil _ _ _ _ _, hx0⟩
 case round =>
  obtain ⟨k, hgk, rfl, hown, hx⟩ := hrel
  obtain ⟨wo, rfl⟩ : ∃ wo : World, wo = wr := ⟨_, rfl⟩
  obtain ⟨go, rfl⟩ : ∃ g : Nat, g = gk := ⟨_, rfl⟩
  have hpl := partsTo_len ps k (by omega)
  have htl := hopsN_take_le ps (k + 1)
  by_cases hlt : k < ps.length
  ·
   obtain ⟨b, off, oh, ch, rfl, hc, hr⟩ := Part.at r k hlt
   have hcx := Part.at_ext hx hc
   have hsn := hopsN_snoc hlt
   have hbd : hopsN (ps.take k) + ps[k].hops.length ≤ 1048576 := by omega
   have hgk' : go - 1 + (k + 1) = ps.length ∧ go - 1 < go := by omega
   have HGK := Lib.hid hgk'; clear hgk' hgk hsn htl hc
   have hxa : Ext w (wo.alloc (.cells #[.int .i64 ps[k].kind, .int .i64 ps[k].ts, .int .i64 ps[k].beta, .slice oh ps[k].hops.length ch] 47)) := hx.alloc _
   have hB := blk_new wo (.cells #[.int .i64 ps[k].kind, .int .i64 ps[k].ts, .int .i64 ps[k].beta, .slice oh ps[k].hops.length ch] 47)
   have HB := Lib.hid hB; clear hB
   have hsz : ps[k].hops.length ≤ 9223372036854775807 := hr.small
   go_wp2
   go_loopg [3, 20] ps[k].hops.length (fun gj out i wi => ∃ j : Nat, gj + j = ps[k].hops.length ∧ i = .int .i64 j ∧ OwnF Step.f 3 w.heap.size 123 wi out (hopsTo (decide (0 < k)) ps[k].kind (partsTo ps k) ps[k].hops j) ∧ Hid (wi.heap[wo.heap.size]? = some (.cells #[.int .i64 ps[k].kind, .int .i64 ps[k].ts, .int .i64 ps[k].beta, .slice oh ps[k].hops.length ch] 47)) ∧ Ext w wi)
   case atStart => exact ⟨0, rfl, rfl, hown.ext ((Ext.refl _).alloc _), HB, hxa⟩
   case round =>

    obtain ⟨j, hgj, rfl, hownj, HBj, hxj⟩ := hrel
    have hol := hopsTo_len (decide (0 < k)) ps[k].kind (partsTo ps k) ps[k].hops j
    obtain ⟨oo, cc, rfl, hso⟩ := (OwnF.rd (hf := Step.flen) hownj).shape

    by_cases hlj : j < ps[k].hops.length
    ·
     obtain ⟨b2, off2, rfl, hc2⟩ := Hop.at (hr.ext hxj) j hlj
     have hst := hopsTo_succ (m := decide (0 < k)) (k := ps[k].kind) (out := partsTo ps k) hlj
     have HST := Lib.hid hst; clear hst
     have hgj' : gk - 1 + (j + 1) = ps[k].hops.length ∧ gk - 1 < gk := by omega
     have HGJ := Lib.hid hgj'; clear hgj' hgj
     generalize hout : hopsTo (decide (0 < k)) ps[k].kind (partsTo ps k) ps[k].hops j = out at *
     clear hout

     have hHb := blk_new wr (.cells #[.int .i64 ps[k].hops[j].asn, .int .i64 ps[k].hops[j].ing, .int .i64 ps[k].hops[j].eg, .int .i64 ps[k].hops[j].exp, .int .i64 ps[k].hops[j].mac] 44)
     have HHB := Lib.hid hHb; clear hHb
     have hxh : Ext wr (wr.alloc (.cells #[.int .i64 ps[k].hops[j].asn, .int .i64 ps[k].hops[j].ing, .int .i64 ps[k].hops[j].eg, .int .i64 ps[k].hops[j].exp, .int .i64 ps[k].hops[j].mac] 44)) := (Ext.refl _).alloc _
     go_upto_region 9 with (fail)
     go_cut [47] (fun c wx => c = .bool (mergeB (decide (0 < k) && j == 0) out ps[k].hops[j]) ∧ Ext (wr.alloc (.cells #[.int .i64 ps[k].hops[j].asn, .int .i64 ps[k].hops[j].ing, .int .i64 ps[k].hops[j].eg, .int .i64 ps[k].hops[j].exp, .int .i64 ps[k].hops[j].mac] 44)) wx)
     case first =>

      by_cases hk0 : 0 < k
      ·
       by_cases hj0 : j = 0
       ·
        subst hj0
        by_cases hn0 : 0 < out.length
        ·
         obtain ⟨g, cap2, hv2, _, _⟩ := hownj.some_shape hn0
         cases hv2
         have hm : mergeB (decide (0 < k) && 0 == 0) out ps[k].hops[0] = (out[out.length - 1].asn == ps[k].hops[0].asn) := by rw [mergeB_at hn0]; simp [hk0]
         have HM := Lib.hid hm; clear hm
         have q0 : (0 : Int) < k := by omega
         have q2 : (0 : Int) ≤ (out.length : Int) - 1 := by omega
         have q3 : (1 : Int) ≤ (out.length : Int) := by omega
         have q6 : (0 : Int) < (out.length : Int) := by omega
         have q4 : ((out.length : Int) - 1).toNat = out.length - 1 := by omega
         have q5 : (out.length : Int) - 1 < (out.length : Int) := by omega
         have q7 : IntKind.i64.wrap ((out.length : Int) - 1) = (out.length : Int) - 1 := IntWalk.i64_in _ (by omega)
         have hos := Step.own_at (hownj.ext hxh) (out.length - 1) (by omega)
         go_quiet (fail)
         go_wp2
         go_meet
         exact ⟨by rw [HM.out], (Ext.refl _).drewN _⟩
        ·
         have hm : mergeB (decide (0 < k) && 0 == 0) out ps[k].hops[0] = false := by
          rw [List.eq_nil_of_length_eq_zero (by omega : out.length = 0)]; exact mergeB_nil
         have HM := Lib.hid hm; clear hm
         have q0 : (0 : Int) < k := by omega
         have q2 : decide ((0 : Int) ≤ (out.length : Int) - 1) = false := decide_eq_false (by omega)
         have q3 : decide ((1 : Int) ≤ (out.length : Int)) = false := decide_eq_false (by omega)
         have q6 : decide ((0 : Int) < (out.length : Int)) = false := decide_eq_false (by omega)
         go_quiet (fail)
         go_wp2
         go_meet
         exact ⟨by rw [HM.out], (Ext.refl _).drewN _⟩
       ·
        have hm : mergeB (decide (0 < k) && j == 0) out ps[k].hops[j] = false := by simp [mergeB, hj0]
        have HM := Lib.hid hm; clear hm
        have q1 : ((j : Int) == 0) = false := by simp; omega
        go_quiet (fail)
        go_wp2
        go_meet
        exact ⟨by rw [HM.out], (Ext.refl _).drewN _⟩
      ·
       have hm : mergeB (decide (0 < k) && j == 0) out ps[k].hops[j] = false := by simp [mergeB, hk0]
       have HM := Lib.hid hm; clear hm
       have q1 : decide ((0 : Int) < k) = false := by simp; omega
       go_quiet (fail)
       go_wp2
       go_meet
       exact ⟨by rw [HM.out], (Ext.refl _).drewN _⟩

     case rest =>
      obtain ⟨rfl, hxc⟩ := hcut
      have hbc := Ext.block (hxh.trans hxc) HBj.out
      have hPc := blk4 hbc
      have HBC := Lib.hid hbc; clear hbc
      have hHc := blk5 (Ext.block hxc HHB.out)
      have hxw := (hxj.trans hxh).trans hxc
      have hrc := hr.ext hxw
      have hoc := hownj.ext (hxh.trans hxc)
      cases hmb : mergeB (decide (0 < k) && j == 0) out ps[k].hops[j]
      ·
       have hst := stepOne_no (k := ps[k].kind) hmb
       have HS2 := Lib.hid (HST.out.trans hst); clear hst
       have HMB := Lib.hid hmb; clear hmb
       have EIN := Lib.hid (partIn_at hlj)
       have EEG := Lib.hid (partEg_at hlj)
       have hln : out.length + 1 ≤ 1048577 := by omega
       go_wp2_with fail
       refine planStep (.blk [0, 1, 2, 3, 4, 6, 7] (.one 5 (.one 8 (.blk [9] (.one 10 (.one 11 (.blk [12] .done))))))) [11] (by kernel_rfl) (by kernel_rfl) ?_

       refine blkStep (fun K HK => ?_)
       simp only [PK]
       go_wp2_with fail
       refine HK.out _ _ ?_
       clear HK K

       refine oneStep (fun K HK => ?_)
       simp only [PK]
       go_wp2_with fail

       refine (i_PartIngress ps[k] _ _ _ (hrc.ext (Ext.refl _).drew)).mono ?_
       rintro e w1 ⟨rfl, h1⟩
       rw [EIN.out]
       go_wp2_with fail
       refine HK.out _ _ (h1) ?_
       clear HK K

       refine oneStep (fun K HK => ?_)
       simp only [PK]
       go_wp2_with fail

       refine (i_PartEgress ps[k] _ _ _ (hrc.ext ((Ext.refl _).drew.trans h1))).mono ?_
       rintro e w2 ⟨rfl, h2⟩
       rw [EEG.out]
       go_wp2_with fail
       refine HK.out _ _ (h2) ?_
       clear HK K

       refine blkStep (fun K HK => ?_)
       simp only [PK]
       go_wp2_with fail
       refine HK.out _ _ ?_
       clear HK K

       refine oneStep (fun K HK => ?_)
       simp only [PK]
       go_wp2_with fail
       refine HK.out _ _ ((Ext.refl _).alloc _) ?_
       clear HK K
       have hx2 := ((Ext.refl wc).drew.trans h1).trans h2
       refine badStep (by kernel_rfl) (fun K HK => ?_)
       simp only [PK]

       refine app1 E Step.flen Step.one rfl _ _ rfl (stepOf ps[k].kind ps[k].hops[j]) rfl (OwnF.ext hoc (hx2.alloc _)) rfl (by exact blk_list (stepOf ps[k].kind ps[k].hops[j]).f (blk_new w2 _)) (by omega) (by unfold maxLen; omega) (by exact ((hxw.trans hx2).alloc _).size) ?_
       intro v' w' ho' hg'
       have hx' := Ext.app ((hxw.trans hx2).alloc _) hg' hoc (Nat.le_refl _)
       have HB' := Lib.hid (own_ne (OwnF.ext hoc (hx2.alloc _)) (Ext.block (hx2.alloc _) HBC.out) (by decide) hg')
       go_wp2_with fail
       refine HK.out _ _ ?_
       clear HK K
       refine blkStep (fun K HK => ?_)
       simp only [PK]
       go_wp2_with fail
       refine HK.out _ _ ?_
       clear HK K

       refine doneStep (by kernel_rfl) ?_

       rw [← HS2.out] at ho'
       clear hg'
       go_wp2_with fail
       go_roundg (gk - 1)
       case measure => exact HGJ.out.2
       case rel => exact ⟨j + 1, HGJ.out.1, by go_num, ho', HB', hx'⟩
      ·
       have hn0 := mergeB_len hmb
       have hst := stepOne_yes (k := ps[k].kind) hmb hn0
       have HS2 := Lib.hid (HST.out.trans hst); clear hst
       have HMB := Lib.hid hmb; clear hmb
       have EEG := Lib.hid (partEg_at hlj)
       obtain ⟨g, cap2, hv2, _, _⟩ := hownj.some_shape hn0
       cases hv2
       have q2 : (0 : Int) ≤ (out.length : Int) - 1 := by omega
       have q5 : (out.length : Int) - 1 < (out.length : Int) := by omega
       go_wp2_with fail
       refine (i_PartEgress ps[k] _ _ _ hrc).mono ?_
       rintro e w2 ⟨rfl, h2⟩
       rw [EEG.out]
       have ho2 := hoc.ext h2
       have hos := Step.own_at ho2 (out.length - 1) (by omega)
       have f2 := ho2.free ((out.length - 1) * 3 + 2)
       obtain ⟨hop, hgp⟩ := OwnF.put1 Step.flen ho2 (out.length - 1) (by omega) 2 (by decide) (.int .i64 (hopEg ps[k].kind ps[k].hops[j])) ⟨out[out.length - 1].asn, out[out.length - 1].ing, hopEg ps[k].kind ps[k].hops[j]⟩ rfl
       have hx' := (hxw.trans h2).grown hgp (fun q hq => by cases hq; exact (ho2.block _ rfl).1)
       have HB' := Lib.hid (own_ne ho2 (Ext.block h2 HBC.out) (by decide) hgp)
       rw [← HS2.out] at hop
       have HOP := Lib.hid hop; clear hop hgp
       have hle : out.length = (hopsTo (decide (0 < k)) ps[k].kind (partsTo ps k) ps[k].hops (j + 1)).length := by rw [HS2.out]; simp
       have HLE := Lib.hid hle; clear hle
       go_wp2_with fail
       go_roundg (gk - 1)
       case measure => exact HGJ.out.2
       case rel => exact ⟨j + 1, HGJ.out.1, by go_num, HOP.out, HB', hx'⟩
    ·
     obtain rfl : j = ps[k].hops.length := by omega
     go_wp2
     go_roundg (go - 1)
     case measure => exact HGK.out.2
     case rel => exact ⟨k + 1, HGK.out.1, by go_num, by rw [partsTo_succ hlt]; exact hownj, hxj⟩
  ·
   obtain rfl : k = ps.length := by omega
   obtain ⟨oo, cc, rfl, hso⟩ := (OwnF.rd (hf := Step.flen) hown).shape
   generalize hout : partsTo ps ps.length = out at *
   have hfin : pathSteps ps = endsEg (endsIn out) := by unfold pathSteps; rw [hout]
   have HF := Lib.hid hfin; clear hfin hout
   by_cases hn0 : 0 < out.length
   ·
    obtain ⟨g, cap2, hv2, _, _⟩ := hown.some_shape hn0
    cases hv2
    have hos := Step.own_at hown 0 hn0
    simp only [Nat.zero_mul, Nat.zero_add] at hos
    have f1 := hown.free 1
    obtain ⟨ho1, hg1⟩ := OwnF.put1 Step.flen hown 0 hn0 1 (by decide) (.int .i64 0) ⟨out[0].asn, 0, out[0].eg⟩ rfl
    have e1 : out.set 0 ⟨out[0].asn, 0, out[0].eg⟩ = endsIn out := by unfold endsIn; rw [dif_pos hn0]
    rw [e1] at ho1
    have hl1 := endsIn_len out
    have hos2 := Step.own_at ho1 (out.length - 1) (by omega)
    have f2 := ho1.free ((out.length - 1) * 3 + 2)
    obtain ⟨ho2, hg2⟩ := OwnF.put1 Step.flen ho1 (out.length - 1) (by omega) 2 (by decide) (.int .i64 0) ⟨(endsIn out)[out.length - 1].asn, (endsIn out)[out.length - 1].ing, 0⟩ rfl
    have e2 : (endsIn out).set (out.length - 1) ⟨(endsIn out)[out.length - 1].asn, (endsIn out)[out.length - 1].ing, 0⟩ = endsEg (endsIn out) := by
     unfold endsEg; rw [dif_pos (by omega)]; simp only [hl1]
    rw [e2] at ho2
    have hx1 := (hx.grown hg1 (fun q hq => by cases hq; exact (hown.block _ rfl).1)).grown hg2 (fun q hq => by cases hq; exact (hown.block _ rfl).1)
    simp only [Nat.zero_mul, Nat.zero_add] at hos2 f2 ho2 hx1
    have HO2 := Lib.hid ho2; clear ho2 ho1 hg1 hg2 e1 e2
    have q2 : (0 : Int) ≤ (out.length : Int) - 1 := by omega
    have q5 : (out.length : Int) - 1 < (out.length : Int) := by omega
    have q6 : (0 : Int) < (out.length : Int) := by omega
    go_wp2
    go_ret
    rw [HF.out]
    exact ⟨_, rfl, HO2.out, hx1⟩
   ·
    have h0 : out = [] := List.eq_nil_of_length_eq_zero (by omega)
    subst h0
    go_wp2
    go_ret
    rw [HF.out]
    exact ⟨_, rfl, hown, hx⟩
end
section
open Go.ChangeShapes Go.WideShapes Go.ChangeAt Go.RowKit Go.Deep
set_option maxHeartbeats 400000 in
theorem i_hasInt (l : List Int) (v : Value) (n : Int) (w : World) (hv : RdS Rep.int w v l) :
  Calls Tryz.prog 177 #[v, .int .i64 n] w fun e w' => e = .returned (.bool (hasI l n)) ∧ w = w' := by
 obtain ⟨o, cap, rfl, hsm⟩ := hv.shape
 go_enter Tryz.func177, Tryz.ntmps177
 go_wp2
 go_loop [9] (fun i => ∃ k : Nat, k ≤ l.length ∧ i = .int .i64 k ∧ hasI (l.take k) n = false) (fun i => l.length - (intOf i).toNat)
 case atStart => exact ⟨0, Nat.zero_le _, rfl, rfl⟩
 case round =>
  obtain ⟨k, hk, rfl, hno⟩ := hrel
  have HN := Lib.hid hno; clear hno
  by_cases hlt : k < l.length
  ·
   obtain ⟨b, off, rfl, hc⟩ := ints_at hv k hlt
   cases he : (l[k] == n)
   ·
    go_wp2
    go_round
    case rel => exact ⟨k + 1, by omega, by go_num, by unfold hasI; rw [any_snoc _ hlt, he, Bool.or_false]; exact HN.out⟩
    case measure => simp [intOf]; omega
   ·
    have hy : hasI l n = true := any_hit _ hlt he
    have HY := Lib.hid hy; clear hy
    go_wp2
    go_ret
    exact ⟨ret_bool HY.out.symm, rfl⟩
  ·
   have hy : hasI l n = false := by rw [← HN.out, List.take_of_length_le (by omega)]
   have HY := Lib.hid hy; clear hy
   go_wp2
   go_ret
   exact ⟨ret_bool HY.out.symm, rfl⟩
set_option maxHeartbeats 4000000 in
theorem i_numbered (l : List Step) (v : Value) (w : World) (hv : RdS Step.rep w v l) (hl : l.length ≤ 1048576) :
  Calls Tryz.prog 212 #[v] w fun e w' => ∃ v', e = .returned v' ∧ OwnF intF 1 w.heap.size 3 w' v' (usedIfs l) ∧ Ext w w' := by
 obtain ⟨o, cap, rfl, hsm⟩ := hv.shape
 obtain ⟨E⟩ := elemInt
 go_enter Tryz.func212, Tryz.ntmps212
 go_wp2
 go_loopg [3, 8] l.length (fun gk out i wr => ∃ k : Nat, gk + k = l.length ∧ i = .int .i64 k ∧ OwnF intF 1 w.heap.size 3 wr out (usedIfs (l.take k)) ∧ Ext w wr)
 case atStart => exact ⟨0, rfl, rfl, OwnF.nil _ _ _ _ _, Ext.refl _⟩
 case round =>
  obtain ⟨k, hgk, rfl, hown, hx⟩ := hrel
  have hln : (usedIfs (l.take k)).length ≤ 2 * k := Nat.le_trans (usedIfs_len _) (by have := List.length_take_le k l; omega)
  by_cases hlt : k < l.length
  ·
   obtain ⟨b, off, rfl, hc⟩ := Step.at (hv.ext hx) k hlt
   have hg' : gk - 1 + (k + 1) = l.length ∧ gk - 1 < gk := by omega
   have HG := Lib.hid hg'; clear hg' hgk
   have HS := Lib.hid (usedIfs_snoc hlt)
   generalize usedIfs (l.take k) = out at *
   have hB := blk_new wr (.cells #[.int .i64 l[k].asn, .int .i64 l[k].ing, .int .i64 l[k].eg] 123)
   have HB := Lib.hid hB; clear hB
   have hxa : Ext w (wr.alloc (.cells #[.int .i64 l[k].asn, .int .i64 l[k].ing, .int .i64 l[k].eg] 123)) := hx.alloc _
   have hoa := hown.ext ((Ext.refl wr).alloc (.cells #[.int .i64 l[k].asn, .int .i64 l[k].ing, .int .i64 l[k].eg] 123))
   cases h1 : (l[k].ing != 0)
   ·
    cases h2 : (l[k].eg != 0)
    ·
     have HE := Lib.hid (HS.out.trans (by rw [stepIfs_00 h1 h2, List.append_nil]))
     go_wp2_with fail
     go_roundg (gk - 1)
     case measure => exact HG.out.2
     case rel => exact ⟨k + 1, HG.out.1, by go_num, by rw [HE.out]; exact hoa, hxa⟩
    ·
     have HE := Lib.hid (HS.out.trans (by rw [stepIfs_01 h1 h2]))
     go_wp2_with (at_builtin; refine app1 E intFlen intOne rfl _ _ rfl (ifNum l[k].asn l[k].eg) rfl (OwnF.ext hown (((Ext.refl _).alloc _).alloc _)) rfl (by exact blk_list (intF (ifNum l[k].asn l[k].eg)) (blk_new2 wr _ _)) (by omega) (by unfold maxLen; omega) (by exact (hxa.alloc _).size) ?_)
     intro v1 w1 ho1 hg1
     have hx1 := Ext.app (hxa.alloc _) hg1 hown (Nat.le_refl _)
     clear hg1
     rw [← HE.out] at ho1
     go_wp2_with fail
     go_roundg (gk - 1)
     case measure => exact HG.out.2
     case rel => exact ⟨k + 1, HG.out.1, by go_num, ho1, hx1⟩

   ·
    cases h2 : (l[k].eg != 0)
    ·
     have HE := Lib.hid (HS.out.trans (by rw [stepIfs_10 h1 h2]))
     go_wp2_with (at_builtin; refine app1 E intFlen intOne rfl _ _ rfl (ifNum l[k].asn l[k].ing) rfl (OwnF.ext hown (((Ext.refl _).alloc _).alloc _)) rfl (by exact blk_list (intF (ifNum l[k].asn l[k].ing)) (blk_new2 wr _ _)) (by omega) (by unfold maxLen; omega) (by exact (hxa.alloc _).size) ?_)
     intro v1 w1 ho1 hg1
     have hx1 := Ext.app (hxa.alloc _) hg1 hown (Nat.le_refl _)
     have hs1 := blk3 (own_ne (OwnF.ext hown (((Ext.refl _).alloc _).alloc _)) (Ext.block ((Ext.refl _).alloc _) HB.out) (by decide) hg1)
     clear hg1
     rw [← HE.out] at ho1
     go_wp2_with fail
     go_roundg (gk - 1)
     case measure => exact HG.out.2
     case rel => exact ⟨k + 1, HG.out.1, by go_num, ho1, hx1⟩

    ·
     have HE := Lib.hid (show usedIfs (l.take (k + 1)) = out ++ [ifNum l[k].asn l[k].ing, ifNum l[k].asn l[k].eg] from HS.out.trans (by rw [stepIfs_11 h1 h2]; rfl))
     go_wp2_with (at_builtin; refine app1 E intFlen intOne rfl _ _ rfl (ifNum l[k].asn l[k].ing) rfl (OwnF.ext hown (((Ext.refl _).alloc _).alloc _)) rfl (by exact blk_list (intF (ifNum l[k].asn l[k].ing)) (blk_new2 wr _ _)) (by omega) (by unfold maxLen; omega) (by exact (hxa.alloc _).size) ?_)
     intro v1 w1 ho1 hg1
     have hx1 := Ext.app (hxa.alloc _) hg1 hown (Nat.le_refl _)
     have hs1 := blk3 (own_ne (OwnF.ext hown (((Ext.refl _).alloc _).alloc _)) (Ext.block ((Ext.refl _).alloc _) HB.out) (by decide) hg1)
     clear hg1
     have hl1 : (out ++ [ifNum l[k].asn l[k].ing]).length = out.length + 1 := by simp
     go_wp2_with (at_builtin; refine app1 E intFlen intOne rfl _ _ rfl (ifNum l[k].asn l[k].eg) rfl (OwnF.ext ho1 ((Ext.refl _).alloc _)) rfl (by exact blk_list (intF (ifNum l[k].asn l[k].eg)) (blk_new w1 _)) (by omega) (by unfold maxLen; omega) (by exact (hx1.alloc _).size) ?_)
     intro v2 w2 ho2 hg2
     have hx2 := Ext.app (hx1.alloc _) hg2 ho1 (Nat.le_refl _)
     clear hg2
     rw [← HE.out] at ho2
     go_wp2_with fail
     go_roundg (gk - 1)
     case measure => exact HG.out.2
     case rel => exact ⟨k + 1, HG.out.1, by go_num, ho2, hx2⟩

  ·
   rw [List.take_of_length_le (by omega)] at hown
   go_wp2
   go_ret
   exact ⟨_, rfl, hown, hx⟩
set_option maxHeartbeats 400000 in
theorem i_InterfacesUsed (x : Pth) (v : Value) (w : World) (r : RdS Part.rep w v x.parts) (hl : x.size ≤ 1048576) :
  Calls Tryz.prog 178 #[.agg #[v]] w fun e w' => ∃ v', e = .returned v' ∧ OwnF intF 1 w.heap.size 3 w' v' (usedIfs (pathSteps x.parts)) ∧ Ext w w' := by
 have hx0 : Ext w (w.alloc (.cells #[v] 26)) := (Ext.refl _).alloc _
 have hps := pathSteps_len x.parts
 go_enter Tryz.func178, Tryz.ntmps178
 go_wp2_with fail
 refine (i_PathSteps x _ _ (r.ext hx0) hl).mono ?_
 rintro e w1 ⟨v1, rfl, o1, h1⟩
 have hx1 := hx0.trans h1
 go_wp2_with fail
 refine (i_numbered _ _ _ (OwnF.rd (hf := Step.flen) o1) (by unfold Pth.size at hl; omega)).mono ?_
 rintro e w2 ⟨v2, rfl, o2, h2⟩
 go_wp2_with fail
 go_ret
 exact ⟨_, rfl, o2.mono hx1.size, hx1.trans h2⟩
end
end Go.Proofs.YtikbeiafobnblaaGreat
