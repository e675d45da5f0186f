/- What these laws need: FnFinishes: Contracts of segments: their chaining values, codes and ASes; joins of segments. -/
import Derived.Test.YtcpfmhgfaliemaaKN15
import Derived.Test.YtcpfmhgfaliemaaKN16
namespace Go.Proofs.Ytcpfmhgfaliemaa
section
open Go.ChangeShapes Go.WideShapes Go.ChangeAt Go.RowKit Go.Deep
theorem RdS.pre {α : Type} {r : Rep α} {w : World} {o : Option Addr} {m cap : Nat} {l : List α} (h : RdS r w (.slice o m cap) l) (k : Nat) (hk : k ≤ l.length) : RdS r w (.slice o k cap) (l.take k) := by
 obtain ⟨o', cap', hv, c1, c2, hn, hel⟩ := h
 cases hv
 have hlen : (l.take k).length = k := by simp; omega
 refine ⟨_, _, by rw [hlen], by rw [hlen]; omega, c2, hn, fun i hi => ?_⟩
 obtain ⟨b, off, cs, hb, hc, hr⟩ := hel i (by omega)
 exact ⟨b, off, cs, hb, hc, by simpa using hr⟩
theorem RdS.emp {α : Type} (r : Rep α) (w : World) (o : Option Addr) (c : Nat) (h : c ≤ maxLen) (hn : o = none → c = 0) : RdS r w (.slice o 0 c) [] :=
 ⟨o, c, rfl, Nat.zero_le _, h, hn, fun i hi => absurd hi (by simp)⟩
set_option maxRecDepth 100000 in
set_option maxHeartbeats 1000000 in
theorem s_SegmentASes (s : Seg) (v : Value) (w : World) (r : RdS Hop.rep w v s.hops) (hl : s.hops.length ≤ 1048576) :
  Calls Try.prog 94 #[.agg #[.int .i64 s.ts, .int .i64 s.beta, v]] w fun e w' => ∃ v', e = .returned v' ∧ OwnF intF 1 w.heap.size 3 w' v' (s.hops.map (·.asn)) ∧ Ext w w' := by
 obtain ⟨o, cap, rfl, hsm⟩ := r.shape
 obtain ⟨E⟩ := elemInt
 obtain ⟨ml, hml⟩ : ∃ ml, ml = s.hops.map (·.asn) := ⟨_, rfl⟩
 have hlm : ml.length = s.hops.length := by rw [hml]; simp
 have HAT : Hid (∀ (k : Nat) (h : k < ml.length) (h' : k < s.hops.length), ml[k] = s.hops[k].asn) := Lib.hid (by intro k h h'; subst hml; simp)
 rw [← hml]
 clear hml
 have HLM := Lib.hid hlm; clear hlm
 have hx0 : Ext w (w.alloc (.cells #[.int .i64 s.ts, .int .i64 s.beta, .slice o s.hops.length cap] 60)) := (Ext.refl _).alloc _
 have HB0 := Lib.hid (blk_new w (.cells #[.int .i64 s.ts, .int .i64 s.beta, .slice o s.hops.length cap] 60))
 go_enter Try.func94, Try.ntmps94
 have ho0 := OwnF.empty intF 1 (w.alloc (.cells #[.int .i64 s.ts, .int .i64 s.beta, .slice o s.hops.length cap] 60)).heap.size 3 (w.alloc (.cells #[.int .i64 s.ts, .int .i64 s.beta, .slice o s.hops.length cap] 60)) (Nat.le_refl _)
 simp only [nblk_alloc] at ho0
 go_wp2
 go_loopg [3, 4] s.hops.length (fun gk out i wr => ∃ k : Nat, gk + k = s.hops.length ∧ i = .int .i64 k ∧ OwnF intF 1 (w.heap.size + 1) 3 wr out (ml.take k) ∧ Ext (w.alloc (.cells #[.int .i64 s.ts, .int .i64 s.beta, .slice o s.hops.length cap] 60)) wr)
 case atStart => exact ⟨0, by omega, rfl, ho0, (Ext.refl _).alloc _⟩
 case round =>
  obtain ⟨k, hgk, rfl, hown, hx⟩ := hrel
  clear ho0
  by_cases hlt : k < s.hops.length
  ·
   have hg' : gk - 1 + (k + 1) = s.hops.length ∧ gk - 1 < gk := by omega
   have HG := Lib.hid hg'; clear hg' hgk
   have hlx : k < s.hops.length := by omega
   obtain ⟨b, off, rfl, hc⟩ := Hop.at (r.ext (hx0.trans hx)) k hlx
   have hkm : k < ml.length := by rw [HLM.out]; exact hlt
   have HS := Lib.hid (show ml.take k ++ [s.hops[k].asn] = ml.take (k + 1) by rw [List.take_succ_eq_append_getElem hkm, HAT.out k hkm hlx])
   have hln : (ml.take k).length ≤ k := List.length_take_le _ _
   clear hkm
   have cf1 := blk3 (Ext.block hx HB0.out)
   go_wp2_with (at_builtin; refine app1 E intFlen intOne rfl _ _ rfl s.hops[k].asn rfl (hown.ext ((Ext.refl _).alloc _)) rfl (by exact blk_list (intF s.hops[k].asn) (blk_new wr _)) (by omega) (by unfold maxLen; omega) (by have := (hx.alloc (.cells #[.int .i64 s.hops[k].asn] 3)).size; simpa using this) ?_)
   intro v' w' ho' hg'
   have hx' := (hx.alloc (.cells #[.int .i64 s.hops[k].asn] 3)).app (e := 3) hg' hown (by simp)
   rw [HS.out] at ho'
   clear hg' hown
   go_wp2_with fail
   go_roundg (gk - 1)
   case measure => exact HG.out.2
   case rel => exact ⟨k + 1, HG.out.1, by go_num, ho', hx'⟩
  ·
   have HXS := Lib.hid (show ml.take k = ml by rw [List.take_of_length_le (by rw [HLM.out]; omega)])
   rw [HXS.out] at hown
   have cf2 := blk3 (Ext.block hx HB0.out)
   go_wp2_with fail
   go_ret
   exact ⟨_, rfl, hown.mono (Nat.le_succ _), (hx0.trans hx)⟩
set_option maxRecDepth 100000 in
set_option maxHeartbeats 1000000 in
theorem s_l9Seals (s : Seg) (v : Value) (n : Nat) (w : World) (r : RdS Hop.rep w v s.hops) (hl : s.hops.length ≤ 1048576) (hn : n ≤ s.hops.length) :
  Calls Try.prog 126 #[.agg #[.int .i64 s.ts, .int .i64 s.beta, v], .int .i64 n] w fun e w' => ∃ v', e = .returned v' ∧ OwnF intF 1 w.heap.size 3 w' v' ((s.hops.take n).map (·.mac)) ∧ Ext w w' := by
 obtain ⟨o, cap, rfl, hsm⟩ := r.shape
 obtain ⟨E⟩ := elemInt
 obtain ⟨ml, hml⟩ : ∃ ml, ml = (s.hops.take n).map (·.mac) := ⟨_, rfl⟩
 have hlm : ml.length = n := by rw [hml]; simp; omega
 have HAT : Hid (∀ (k : Nat) (h : k < ml.length) (h' : k < s.hops.length), ml[k] = s.hops[k].mac) := Lib.hid (by intro k h h'; subst hml; simp)
 rw [← hml]
 clear hml
 have HLM := Lib.hid hlm; clear hlm
 have hx0 : Ext w (w.alloc (.cells #[.int .i64 s.ts, .int .i64 s.beta, .slice o s.hops.length cap] 60)) := (Ext.refl _).alloc _
 have HB0 := Lib.hid (blk_new w (.cells #[.int .i64 s.ts, .int .i64 s.beta, .slice o s.hops.length cap] 60))
 go_enter Try.func126, Try.ntmps126
 have ho0 := OwnF.empty intF 1 (w.alloc (.cells #[.int .i64 s.ts, .int .i64 s.beta, .slice o s.hops.length cap] 60)).heap.size 3 (w.alloc (.cells #[.int .i64 s.ts, .int .i64 s.beta, .slice o s.hops.length cap] 60)) (Nat.le_refl _)
 simp only [nblk_alloc] at ho0
 go_wp2
 go_loopg [5, 6] n (fun gk out i wr => ∃ k : Nat, gk + k = n ∧ i = .int .i64 k ∧ OwnF intF 1 (w.heap.size + 1) 3 wr out (ml.take k) ∧ Ext (w.alloc (.cells #[.int .i64 s.ts, .int .i64 s.beta, .slice o s.hops.length cap] 60)) wr)
 case atStart => exact ⟨0, by omega, rfl, ho0, (Ext.refl _).alloc _⟩
 case round =>
  obtain ⟨k, hgk, rfl, hown, hx⟩ := hrel
  clear ho0
  by_cases hlt : k < n
  ·
   have hg' : gk - 1 + (k + 1) = n ∧ gk - 1 < gk := by omega
   have HG := Lib.hid hg'; clear hg' hgk
   have hlx : k < s.hops.length := by omega
   obtain ⟨b, off, rfl, hc⟩ := Hop.at (r.ext (hx0.trans hx)) k hlx
   have hkm : k < ml.length := by rw [HLM.out]; exact hlt
   have HS := Lib.hid (show ml.take k ++ [s.hops[k].mac] = ml.take (k + 1) by rw [List.take_succ_eq_append_getElem hkm, HAT.out k hkm hlx])
   have hln : (ml.take k).length ≤ k := List.length_take_le _ _
   clear hkm
   have cf1 := blk3 (Ext.block hx HB0.out)
   go_wp2_with (at_builtin; refine app1 E intFlen intOne rfl _ _ rfl s.hops[k].mac rfl (hown.ext ((Ext.refl _).alloc _)) rfl (by exact blk_list (intF s.hops[k].mac) (blk_new wr _)) (by omega) (by unfold maxLen; omega) (by have := (hx.alloc (.cells #[.int .i64 s.hops[k].mac] 3)).size; simpa using this) ?_)
   intro v' w' ho' hg'
   have hx' := (hx.alloc (.cells #[.int .i64 s.hops[k].mac] 3)).app (e := 3) hg' hown (by simp)
   rw [HS.out] at ho'
   clear hg' hown
   go_wp2_with fail
   go_roundg (gk - 1)
   case measure => exact HG.out.2
   case rel => exact ⟨k + 1, HG.out.1, by go_num, ho', hx'⟩
  ·
   have HXS := Lib.hid (show ml.take k = ml by rw [List.take_of_length_le (by rw [HLM.out]; omega)])
   rw [HXS.out] at hown
   have cf2 := blk3 (Ext.block hx HB0.out)
   go_wp2_with fail
   go_ret
   exact ⟨_, rfl, hown.mono (Nat.le_succ _), (hx0.trans hx)⟩
set_option maxRecDepth 100000 in
set_option maxHeartbeats 1000000 in
theorem i_macsOf (l : List Hop) (v : Value) (w : World) (r : RdS Hop.rep w v l) (hl : l.length ≤ 1048576) :
  Calls Try.prog 116 #[v] w fun e w' => ∃ v', e = .returned v' ∧ OwnF intF 1 w.heap.size 3 w' v' (l.map (·.mac)) ∧ Ext w w' := by
 obtain ⟨o, cap, rfl, hsm⟩ := r.shape
 obtain ⟨E⟩ := elemInt
 obtain ⟨ml, hml⟩ : ∃ ml, ml = l.map (·.mac) := ⟨_, rfl⟩
 have hlm : ml.length = l.length := by rw [hml]; simp
 have HAT : Hid (∀ (k : Nat) (h : k < ml.length) (h' : k < l.length), ml[k] = l[k].mac) := Lib.hid (by intro k h h'; subst hml; simp)
 rw [← hml]
 clear hml
 have HLM := Lib.hid hlm; clear hlm
 go_enter Try.func116, Try.ntmps116
 have ho0 := OwnF.nil intF 1 w.heap.size 3 w
 go_wp2
 go_loopg [3, 8] l.length (fun gk out i wr => ∃ k : Nat, gk + k = l.length ∧ i = .int .i64 k ∧ OwnF intF 1 w.heap.size 3 wr out (ml.take k) ∧ Ext w wr)
 case atStart => exact ⟨0, by omega, rfl, by simpa using ho0, Ext.refl _⟩
 case round =>
  obtain ⟨k, hgk, rfl, hown, hx⟩ := hrel
  clear ho0
  by_cases hlt : k < l.length
  ·
   have hg' : gk - 1 + (k + 1) = l.length ∧ gk - 1 < gk := by omega
   have HG := Lib.hid hg'; clear hg' hgk
   have hlx : k < l.length := by omega
   obtain ⟨b, off, rfl, hc⟩ := Hop.at (r.ext hx) k hlx
   have hkm : k < ml.length := by rw [HLM.out]; exact hlt
   have HS := Lib.hid (show ml.take k ++ [l[k].mac] = ml.take (k + 1) by rw [List.take_succ_eq_append_getElem hkm, HAT.out k hkm hlx])
   have hln : (ml.take k).length ≤ k := List.length_take_le _ _
   clear hkm
   go_wp2_with (at_builtin; refine app1 E intFlen intOne rfl _ _ rfl l[k].mac rfl (hown.ext (((Ext.refl _).alloc _).alloc _)) rfl (by exact blk_list (intF l[k].mac) (blk_new2 wr _ _)) (by omega) (by unfold maxLen; omega) (by have := ((hx.alloc (.cells #[.int .i64 l[k].asn, .int .i64 l[k].ing, .int .i64 l[k].eg, .int .i64 l[k].exp, .int .i64 l[k].mac] 108)).alloc (.cells #[.int .i64 l[k].mac] 3)).size; simpa using this) ?_)
   intro v' w' ho' hg'
   have hx' := ((hx.alloc (.cells #[.int .i64 l[k].asn, .int .i64 l[k].ing, .int .i64 l[k].eg, .int .i64 l[k].exp, .int .i64 l[k].mac] 108)).alloc (.cells #[.int .i64 l[k].mac] 3)).app (e := 3) hg' hown (by simp)
   rw [HS.out] at ho'
   clear hg' hown
   go_wp2_with fail
   go_roundg (gk - 1)
   case measure => exact HG.out.2
   case rel => exact ⟨k + 1, HG.out.1, by go_num, ho', hx'⟩
  ·
   have HXS := Lib.hid (show ml.take k = ml by rw [List.take_of_length_le (by rw [HLM.out]; omega)])
   rw [HXS.out] at hown
   go_wp2_with fail
   go_ret
   exact ⟨_, rfl, hown, hx⟩
set_option maxRecDepth 100000 in
set_option maxHeartbeats 1000000 in
theorem s_BetaAt (s : Seg) (v : Value) (i : Int) (w : World) (r : RdS Hop.rep w v s.hops) (hl : s.hops.length ≤ 1048576) :
  Calls Try.prog 98 #[.agg #[.int .i64 s.ts, .int .i64 s.beta, v], .int .i64 i] w fun e w' => e = .returned (.int .i64 (betaAt s i)) ∧ Ext w w' := by
 obtain ⟨o, cap, rfl, hsm⟩ := r.shape
 have hx0 : Ext w (w.alloc (.cells #[.int .i64 s.ts, .int .i64 s.beta, .slice o s.hops.length cap] 60)) := (Ext.refl _).alloc _
 have HB0 := Lib.hid (blk_new w (.cells #[.int .i64 s.ts, .int .i64 s.beta, .slice o s.hops.length cap] 60))
 go_enter Try.func98, Try.ntmps98
 have cf1 := blk3 HB0.out
 go_wp2_with fail
 refine (s_l1In _ _ _ _).mono ?_
 rintro e _ ⟨rfl, rfl⟩
 cases b : inR i 0 s.hops.length
 ·
  have HE := Lib.hid (show betaAt s i = 0 by unfold betaAt; rw [b]; rfl)
  go_wp2_with fail
  go_ret
  exact ⟨ret_int HE.out.symm, hx0⟩
 ·
  obtain ⟨h0, h1⟩ := inR_true.1 b
  obtain ⟨n, rfl⟩ := Int.eq_ofNat_of_zero_le h0
  have HE := Lib.hid (betaAt_nat (s := s) (k := n) (by omega))
  go_wp2_with fail
  refine planStep (.blk [0, 1, 2, 3] (.one 4 (.one 5 (.blk [6] .done)))) [] (by kernel_rfl) (by kernel_rfl) ?_
  try clear cf1
  have cf2 := blk3 (Ext.block ((Ext.refl _).drew) HB0.out)
  refine blkStep (fun K HK => ?_)
  simp only [PK]
  go_wp2_with fail
  refine HK.out _ _ ?_
  clear HK K
  refine oneStep (fun K HK => ?_)
  simp only [PK]
  go_wp2_with fail
  refine (s_l9Seals s _ n _ (r.ext (hx0.trans ((Ext.refl _).drew))) (by omega) (by omega)).mono ?_
  rintro e w2 ⟨u, rfl, ou, hz2⟩
  go_wp2_with fail
  refine HK.out _ _ hz2 ?_
  clear HK K
  refine oneStep (fun K HK => ?_)
  simp only [PK]
  go_wp2_with fail
  refine (s_ChainAdd s.beta _ _ _ (ints_rep ou)).mono ?_
  rintro e _ ⟨rfl, rfl⟩
  go_wp2_with fail
  refine HK.out _ _ (Ext.refl _) ?_
  clear HK K
  refine blkStep (fun K HK => ?_)
  simp only [PK]
  go_wp2_with fail
  refine HK.out _ _ ?_
  clear HK K
  refine doneStep (by kernel_rfl) ?_
  go_wp2_with fail
  go_ret
  exact ⟨ret_int (by rw [HE.out]; try rw [List.map_take]), (hx0.trans ((Ext.refl _).drew)).trans hz2⟩
set_option maxRecDepth 100000 in
set_option maxHeartbeats 2000000 in
theorem i_BetaAt (s : Seg) (v : Value) (i : Int) (w : World) (r : RdS Hop.rep w v s.hops) (hl : s.hops.length ≤ 1048576) :
  Calls Try.prog 91 #[.agg #[.int .i64 s.ts, .int .i64 s.beta, v], .int .i64 i] w fun e w' => e = .returned (.int .i64 (betaAt s i)) ∧ Ext w w' := by
 obtain ⟨o, cap, rfl, hsm⟩ := r.shape
 have hx0 : Ext w (w.alloc (.cells #[.int .i64 s.ts, .int .i64 s.beta, .slice o s.hops.length cap] 60)) := (Ext.refl _).alloc _
 have HB0 := Lib.hid (blk_new w (.cells #[.int .i64 s.ts, .int .i64 s.beta, .slice o s.hops.length cap] 60))
 go_enter Try.func91, Try.ntmps91
 have cf1 := blk3 HB0.out
 go_wp2_with fail
 refine (i_InRange _ _ _ _).mono ?_
 rintro e _ ⟨rfl, rfl⟩
 cases b : inR i 0 s.hops.length
 ·
  have HE := Lib.hid (show betaAt s i = 0 by unfold betaAt; rw [b]; rfl)
  go_wp2_with fail
  go_ret
  exact ⟨ret_int HE.out.symm, hx0⟩
 ·
  obtain ⟨h0, h1⟩ := inR_true.1 b
  obtain ⟨n, rfl⟩ := Int.eq_ofNat_of_zero_le h0
  have HE := Lib.hid (betaAt_nat (s := s) (k := n) (by omega))
  have hlt : ((s.hops.take n).length : Nat) ≤ n := List.length_take_le _ _
  have hcp := r.capLe
  go_wp2_with fail
  go_wp2_with fail
  refine planStep (.blk [0, 1, 2, 3, 4, 5] (.one 6 (.one 7 (.blk [8] .done)))) [] (by kernel_rfl) (by kernel_rfl) ?_
  try clear cf1
  have cf2 := blk3 (Ext.block ((Ext.refl _).drew) HB0.out)
  refine blkStep (fun K HK => ?_)
  simp only [PK]
  go_wp2_with fail
  refine HK.out _ _ ?_
  clear HK K
  refine oneStep (fun K HK => ?_)
  simp only [PK]
  go_wp2_with fail
  refine (i_macsOf (s.hops.take n) _ _ ((r.ext (hx0.trans ((Ext.refl _).drew))).pre n (by omega)) (by omega)).mono ?_
  rintro e w2 ⟨u, rfl, ou, hz2⟩
  go_wp2_with fail
  refine HK.out _ _ hz2 ?_
  clear HK K
  refine oneStep (fun K HK => ?_)
  simp only [PK]
  go_wp2_with fail
  refine (i_ChainAdd s.beta _ _ _ (ints_rep ou)).mono ?_
  rintro e _ ⟨rfl, rfl⟩
  go_wp2_with fail
  refine HK.out _ _ (Ext.refl _) ?_
  clear HK K
  refine blkStep (fun K HK => ?_)
  simp only [PK]
  go_wp2_with fail
  refine HK.out _ _ ?_
  clear HK K
  refine doneStep (by kernel_rfl) ?_
  go_wp2_with fail
  go_ret
  exact ⟨ret_int (by rw [HE.out]; try rw [List.map_take]), (hx0.trans ((Ext.refl _).drew)).trans hz2⟩
set_option maxRecDepth 100000 in
set_option maxHeartbeats 400000 in
theorem l_sameHops (a : List Hop) (va : Value) (b : List Hop) (vb : Value) (w : World) (ha : RdS Hop.rep w va a) (hb : RdS Hop.rep w vb b) :
  Calls Try.prog 55 #[va, vb] w fun e w' => e = .returned (.bool (decide (a = b))) ∧ Ext w w' := by
 obtain ⟨oa, ca, rfl, hsa⟩ := ha.shape
 obtain ⟨ob, cb, rfl, hsb⟩ := hb.shape
 by_cases hne : a.length = b.length
 ·
  have Hne := Lib.hid hne
  have t1 : ((a.length : Int) != (b.length : Int)) = false := by simp [hne]
  clear hne
  go_enter Try.func55, Try.ntmps55
  go_wp2
  go_loopw [5] (fun i wr => ∃ (k : Nat), k ≤ a.length ∧ i = .int .i64 k ∧ a.take k = b.take k ∧ Ext w wr) (fun i _ => a.length - (intOf i).toNat)
  case atStart => exact ⟨0, Nat.zero_le _, rfl, rfl, Ext.refl _⟩
  case round =>
   obtain ⟨k, hk, rfl, htk, hx⟩ := hrel
   have Htk := Lib.hid htk; clear htk
   by_cases hlt : k < a.length
   ·
    have hlb : k < b.length := by rw [← Hne.out]; exact hlt
    obtain ⟨b1, off1, rfl, hc1⟩ := Hop.at (ha.ext hx) k hlt
    obtain ⟨b2, off2, rfl, hc2⟩ := Hop.at (hb.ext hx) k hlb
    go_wp2
    go_still_tail 8, (by kernel_rfl)
    go_wp2_with fail
    all_goals first
     | (go_ret; exact ⟨ret_bool (Eq.symm (decide_eq_false (by rintro rfl; contradiction))), hx.drew⟩)
     | exact ⟨⟨k + 1, by omega, by go_num, take_snoc2 Htk.out hlt hlb (Hop.ext' (by assumption) (by assumption) (by assumption) (by assumption) (by assumption)), hx.drew⟩, by simp [intOf]; omega⟩
   ·
    have hab : decide (a = b) = true := by
     have := Htk.out
     rw [List.take_of_length_le (by omega), List.take_of_length_le (by rw [← Hne.out]; omega)] at this
     simp [this]
    have Hab := Lib.hid hab; clear hab
    go_wp2
    go_ret
    exact ⟨ret_bool Hab.out.symm, hx⟩
 ·
  have t1 : ((a.length : Int) != (b.length : Int)) = true := by simp [bne_iff_ne]; omega
  have hab : decide (a = b) = false := by
   rw [decide_eq_false_iff_not]; rintro rfl; exact hne rfl
  have Hab := Lib.hid hab; clear hab
  clear hne
  go_enter Try.func55, Try.ntmps55
  go_wp2
  go_ret
  exact ⟨ret_bool Hab.out.symm, Ext.refl _⟩
set_option maxRecDepth 100000 in
set_option maxHeartbeats 1000000 in
theorem l_sameSeg (a b : Seg) (va vb : Value) (w : World) (ra : RdS Hop.rep w va a.hops) (rb : RdS Hop.rep w vb b.hops) :
  Calls Try.prog 17 #[.agg #[.int .i64 a.ts, .int .i64 a.beta, va], .agg #[.int .i64 b.ts, .int .i64 b.beta, vb]] w fun e w' => e = .returned (.bool (decide (a = b))) ∧ Ext w w' := by
 obtain ⟨oa, ca, rfl, _⟩ := ra.shape
 obtain ⟨ob, cb, rfl, _⟩ := rb.shape
 have hx0 := ext2 w (.cells #[.int .i64 a.ts, .int .i64 a.beta, .slice oa a.hops.length ca] 60) (.cells #[.int .i64 b.ts, .int .i64 b.beta, .slice ob b.hops.length cb] 60)
 have HB0 := Lib.hid (al2 w (.cells #[.int .i64 a.ts, .int .i64 a.beta, .slice oa a.hops.length ca] 60) (.cells #[.int .i64 b.ts, .int .i64 b.beta, .slice ob b.hops.length cb] 60))
 go_enter Try.func17, Try.ntmps17
 have HE : Hid (decide (a = b) = ((a.ts == b.ts) && (a.beta == b.beta) && decide (a.hops = b.hops))) := Lib.hid (by cases a; cases b; simp only [Seg.mk.injEq, Bool.decide_and, Bool.and_assoc]; rfl)
 cases b1 : (a.ts == b.ts)
 ·
  have cf1 := blk3 HB0.out.1
  have cf2 := blk3 HB0.out.2
  go_wp2_with fail
  go_ret
  exact ⟨ret_bool (by rw [HE.out]; simp [b1]), hx0⟩
 ·
  cases b2 : (a.beta == b.beta)
  ·
   have cf3 := blk3 HB0.out.1
   have cf4 := blk3 HB0.out.2
   go_wp2_with fail
   go_ret
   exact ⟨ret_bool (by rw [HE.out]; simp [b1, b2]), hx0⟩
  ·
   have cf5 := blk3 HB0.out.1
   have cf6 := blk3 HB0.out.2
   go_wp2_with fail
   refine (l_sameHops a.hops _ b.hops _ _ (ra.ext hx0) (rb.ext hx0)).mono ?_
   rintro e w1 ⟨rfl, hz1⟩
   try clear cf5
   try clear cf6
   have cf7 := blk3 (Ext.block hz1 HB0.out.1)
   have cf8 := blk3 (Ext.block hz1 HB0.out.2)
   go_wp2_with fail
   go_ret
   exact ⟨ret_bool (by rw [HE.out]; simp [b1, b2]), (hx0.trans hz1)⟩
set_option maxRecDepth 100000 in
set_option maxHeartbeats 1000000 in
theorem s_AuthenticateHop (key ts beta : Int) (h : Hop) (w : World) :
  Calls Try.prog 97 #[.int .i64 key, .int .i64 ts, .int .i64 beta, .agg #[.int .i64 h.asn, .int .i64 h.ing, .int .i64 h.eg, .int .i64 h.exp, .int .i64 h.mac]] w fun e w' => e = .returned (.agg #[.int .i64 h.asn, .int .i64 h.ing, .int .i64 h.eg, .int .i64 h.exp, .int .i64 (hopMac key ts beta h)]) ∧ Ext w w' := by
 have hx0 := ext3 w (.cells #[.int .i64 h.asn, .int .i64 h.ing, .int .i64 h.eg, .int .i64 h.exp, .int .i64 h.mac] 108) (.cells #[.int .i64 0, .int .i64 0, .int .i64 0, .int .i64 0, .int .i64 0] 108) (.cells #[.int .i64 h.asn, .int .i64 h.ing, .int .i64 h.eg, .int .i64 h.exp, .int .i64 h.mac] 108)
 have HB0 := Lib.hid (al3 w (.cells #[.int .i64 h.asn, .int .i64 h.ing, .int .i64 h.eg, .int .i64 h.exp, .int .i64 h.mac] 108) (.cells #[.int .i64 0, .int .i64 0, .int .i64 0, .int .i64 0, .int .i64 0] 108) (.cells #[.int .i64 h.asn, .int .i64 h.ing, .int .i64 h.eg, .int .i64 h.exp, .int .i64 h.mac] 108))
 go_enter Try.func97, Try.ntmps97
 have cf1 := blk5 HB0.out.1
 have cf2 := blk5 HB0.out.2.1
 have cf3 := blk5 HB0.out.2.2
 go_wp2_with fail
 refine (s_HopMAC key ts beta h _).mono ?_
 rintro e w1 ⟨rfl, hz1⟩
 have HX := Lib.hid (hx0.trans hz1)
 have hb1 := Ext.block hz1 HB0.out.2.1
 have hb2 := Ext.block hz1 HB0.out.2.2
 obtain ⟨wx, hwx, hbx, hcx⟩ := one_set hb2 4 (.int .i64 (hopMac key ts beta h))
 simp only [List.setIfInBounds_toArray, List.set_cons_succ, List.set_cons_zero] at hbx
 have hb3 := hcx.blkS hb1 (by unfold at1; omega)
 obtain ⟨wq, hwq, hbq, hcq⟩ := rs_set hb3 (.int .i64 h.asn) (.int .i64 h.ing) (.int .i64 h.eg) (.int .i64 h.exp) (.int .i64 (hopMac key ts beta h))
 have HWX := Lib.hid hwx
 have HWQ := Lib.hid hwq
 have HBX := Lib.hid hbx
 have HB3 := Lib.hid hb3
 have HBQ := Lib.hid hbq
 have HE := Lib.hid ((HX.out.chg hcx (fun i hi => by have h1 : i = w.heap.size + 1 + 1 := hi; omega)).chg hcq (fun i hi => by have h1 : i = w.heap.size + 1 := hi; omega))
 have ff := fr_of hb2 4
 clear hb1 hwx hwq hbx hb3 hbq hcx hcq
 have cg := blk5 hb2
 clear hb2
 go_upto_region 3 with (fail)
 rw [← HWX.out]
 clear ff cg
 have fR0 := fr_of HB3.out 0
 have fR1 := fr_of HB3.out 1
 have fR2 := fr_of HB3.out 2
 have fR3 := fr_of HB3.out 3
 have fR4 := fr_of HB3.out 4
 have cR := blk5 HB3.out
 have cX := blk5 HBX.out
 try clear cf1
 try clear cf2
 try clear cf3
 go_wp2_with fail
 rw [← HWQ.out]
 clear cR cX fR0 fR1 fR2 fR3 fR4
 have cc := blk5 HBQ.out
 refine bodyPost_ret (v := .agg #[.int .i64 h.asn, .int .i64 h.ing, .int .i64 h.eg, .int .i64 h.exp, .int .i64 (hopMac key ts beta h)]) (by simp [results, Try.results97, go_sem, cc]) rfl ?_
 exact ⟨rfl, HE.out⟩
set_option maxRecDepth 100000 in
set_option maxHeartbeats 2000000 in
theorem s_InterfacesOfKind (t : Topo) (v1 v2 : Value) (r kind : Int) (w : World) (h2 : RdS Lnk.rep w v2 t.links) (hl : t.links.length ≤ 1000) :
  Calls Try.prog 134 #[.agg #[v1, v2], .int .i64 r, .int .i64 kind] w fun e w' => ∃ v', e = .returned v' ∧ OwnF intF 1 w.heap.size 3 w' v' (ifsKind t r kind) ∧ Ext w w' := by
 obtain ⟨E⟩ := elemInt
 obtain ⟨o, cap, rfl, hsm⟩ := h2.shape
 have hx0 : Ext w (w.alloc (.cells #[v1, .slice o t.links.length cap] 41)) := (Ext.refl _).alloc _
 have HB0 := Lib.hid (blk_new w (.cells #[v1, .slice o t.links.length cap] 41))
 go_enter Try.func134, Try.ntmps134
 have ho0 := OwnF.empty intF 1 (w.alloc (.cells #[v1, .slice o t.links.length cap] 41)).heap.size 3 (w.alloc (.cells #[v1, .slice o t.links.length cap] 41)) (Nat.le_refl _)
 have hxe : Ext (w.alloc (.cells #[v1, .slice o t.links.length cap] 41)) ((w.alloc (.cells #[v1, .slice o t.links.length cap] 41)).alloc (.cells #[] 3)) := (Ext.refl _).alloc _
 have cf1 := blk2 (Ext.block hxe HB0.out)
 go_wp2_with fail
 refine (s_Interfaces t v1 _ r _ (h2.ext (hx0.trans hxe)) (by omega)).mono ?_
 rintro e w1 ⟨vi, rfl, oi, hz1⟩
 replace ho0 := ho0.ext hz1
 obtain ⟨li, hli⟩ : ∃ li, li = topoIfs t.links r := ⟨_, rfl⟩
 have hlt := topoIfs_len t.links r
 have HIK := Lib.hid (show ifsKind t r kind = li.filter (fun d => ifKind t r d == kind) by rw [hli]; rfl)
 rw [← hli] at oi hlt
 clear hli
 obtain ⟨oo, co, rfl, _⟩ := (ints_rep oi).shape
 have hat : ∀ q, (Value.slice (some ⟨(w.alloc (.cells #[v1, .slice o t.links.length cap] 41)).heap.size, 0, none⟩) 0 0).ownBlock = some q → (Value.slice oo li.length co).ownBlock ≠ some q := fun q hq e => by
  have h1 := (oi.block q e).1
  have h2 : (w.alloc (.cells #[v1, .slice o t.links.length cap] 41)).heap.size = q := by simpa [Value.ownBlock] using hq
  simp at h1 h2; omega
 have hx1 := (hxe.trans hz1)
 simp only [nblk_alloc] at ho0 hat
 try clear cf1
 have cf2 := blk2 (Ext.block (hxe.trans hz1) HB0.out)
 go_wp2_with fail
 go_loopg [7, 9] li.length (fun gk out i wr => ∃ k : Nat, gk + k = li.length ∧ i = .int .i64 k ∧ OwnF intF 1 (w.heap.size + 1) 3 wr out ((li.take k).filter (fun d => ifKind t r d == kind)) ∧ OwnF intF 1 0 3 wr (.slice oo li.length co) li ∧ (∀ q, out.ownBlock = some q → (Value.slice oo li.length co).ownBlock ≠ some q) ∧ Ext (w.alloc (.cells #[v1, .slice o t.links.length cap] 41)) wr)
 case atStart => exact ⟨0, by omega, rfl, by simpa using ho0, oi.to0, hat, hx1⟩
 case round =>
  clear hat hx1 oi ho0 hz1
  obtain ⟨k, hgk, rfl, ho, oi, hat, hx⟩ := hrel
  have HGK := Lib.hid hgk
  have HAT := Lib.hid hat
  clear hgk hat
  have hkl : k ≤ li.length := by have h1 := HGK.out; omega
  have hln : ((li.take k).filter (fun d => ifKind t r d == kind)).length ≤ k := Nat.le_trans (List.length_filter_le _ _) (List.length_take_le _ _)
  by_cases hlt : k < li.length
  ·
   obtain ⟨b, off, rfl, hc⟩ := ints_at (ints_rep oi) k hlt
   try clear cf2
   have cf3 := blk2 (Ext.block hx HB0.out)
   go_wp2_with fail
   refine planStep (.blk [0, 1, 2, 3, 4, 5, 7] (.one 6 (.blk [8] .done))) [] (by kernel_rfl) (by kernel_rfl) ?_
   try clear cf3
   have cf4 := blk2 (Ext.block (hx.trans ((Ext.refl _).drew)) HB0.out)
   have cf5 := Ext.cell ((Ext.refl _).drew) hc
   refine blkStep (fun K HK => ?_)
   simp only [PK]
   go_wp2_with fail
   refine HK.out _ _ ?_
   clear HK K
   refine oneStep (fun K HK => ?_)
   simp only [PK]
   go_wp2_with fail
   refine (s_InterfaceKind t v1 _ r li[k] _ (h2.ext ((hx0.trans hx).trans ((Ext.refl _).drew)))).mono ?_
   rintro e w3 ⟨rfl, hz3⟩
   go_wp2_with fail
   refine HK.out _ _ hz3 ?_
   clear HK K
   refine blkStep (fun K HK => ?_)
   simp only [PK]
   go_wp2_with fail
   refine HK.out _ _ ?_
   clear HK K
   refine doneStep (by kernel_rfl) ?_
   replace ho := (ho.ext ((Ext.refl _).drew)).ext hz3
   replace oi := (oi.ext ((Ext.refl _).drew)).ext hz3
   cases ht : (ifKind t r li[k] == kind)
   ·
    try clear cf4
    try clear cf5
    have cf6 := blk2 (Ext.block ((hx.trans ((Ext.refl _).drew)).trans hz3) HB0.out)
    have cf7 := Ext.cell (((Ext.refl _).drew).trans hz3) hc
    go_wp2_with fail
    go_roundg (gk - 1)
    case measure => have h1 := HGK.out; omega
    case rel => exact ⟨k + 1, by have h1 := HGK.out; omega, congrArg (Value.int .i64) (by first | omega | (unfold wrap64; omega)), by rw [← filter_neg (α := Int) (fun d => ifKind t r d == kind) hlt (by rw [ht]; simp)]; exact ho, oi, HAT.out, ((hx.trans ((Ext.refl _).drew)).trans hz3)⟩
   ·
    have HX := Lib.hid ((hx.trans ((Ext.refl _).drew)).trans hz3)
    try clear cf4
    try clear cf5
    have cf8 := blk2 (Ext.block ((hx.trans ((Ext.refl _).drew)).trans hz3) HB0.out)
    have cf9 := Ext.cell (((Ext.refl _).drew).trans hz3) hc
    go_wp2_with (at_builtin; refine app1p E intFlen rfl _ _ rfl li[k] (intOne _) rfl (OwnF.ext ho ((Ext.refl _).alloc _)) rfl (by exact blk_list (intF li[k]) (blk_new w3 _)) (by omega) (by unfold maxLen; omega) (by have h1 := HX.out.size; simp at h1 ⊢; omega) ?_)
    intro v' w' ho' hg' hat'
    have hx' := (HX.out.alloc (.cells #[.int .i64 li[k]] 3)).app (e := 3) hg' ho (by simp)
    have oi' := (oi.ext ((Ext.refl w3).alloc (.cells #[.int .i64 li[k]] 3))).chg (chg_own (ho.ext ((Ext.refl w3).alloc (.cells #[.int .i64 li[k]] 3))) hg') (fun q hq h => HAT.out q h hq)
    have hat2 : ∀ q, v'.ownBlock = some q → (Value.slice (some ⟨b, off, none⟩) li.length co).ownBlock ≠ some q := fun q hq e => by
     rcases hat' with h | h
     ·
      exact HAT.out q (by rw [← h]; exact hq) e
     ·
      have h1 := (oi.block q e).2
      rw [h] at hq
      injection hq with hq
      first | omega | (simp at hq; omega)
    have HA2 := Lib.hid hat2
    clear hat2 hat' hg' oi
    try clear cf8
    try clear cf9
    go_wp2_with fail
    go_roundg (gk - 1)
    case measure => have h1 := HGK.out; omega
    case rel => exact ⟨k + 1, by have h1 := HGK.out; omega, congrArg (Value.int .i64) (by first | omega | (unfold wrap64; omega)), by rw [← filter_pos (α := Int) (fun d => ifKind t r d == kind) hlt ht]; exact ho', oi', HA2.out, hx'⟩
  ·
   rw [List.take_of_length_le (by omega)] at ho
   try clear cf2
   have cf10 := blk2 (Ext.block hx HB0.out)
   go_wp2_with fail
   go_ret
   exact ⟨_, rfl, by rw [HIK.out]; exact ho.mono (Nat.le_succ _), (hx0.trans hx)⟩
theorem splice_no {a b : Seg} {i j : Int} (h : (inR i 0 a.hops.length && inR j 0 b.hops.length) = false) : splice a i b j = ⟨0, 0, []⟩ := by unfold splice; rw [h]; rfl
theorem splice_yes {a b : Seg} {i j : Nat} (hi : i ≤ a.hops.length) (hj : j ≤ b.hops.length) : splice a i b j = ⟨a.ts, a.beta, a.hops.take i ++ b.hops.drop j⟩ := by
 unfold splice
 rw [if_pos (by simp only [Bool.and_eq_true, inR_true]; omega), Int.toNat_natCast, Int.toNat_natCast]
theorem RdS.sufO {α : Type} {r : Rep α} {w : World} {o : Option Addr} {m cap : Nat} {l : List α} (h : RdS r w (.slice o m cap) l) (k : Nat) (hk : k ≤ l.length) : RdS r w (.slice (o.map (fun x => x.add (k * r.cells))) (l.length - k) (cap - k)) (l.drop k) := by
 obtain ⟨o', cap', hv, c1, c2, hn, hel⟩ := h
 cases hv
 have hlen : (l.drop k).length = l.length - k := by simp
 refine ⟨_, _, by rw [hlen], by rw [hlen]; omega, by omega, (fun e => by cases o with | none => have := hn rfl; omega | some ad => cases e), fun i hi => ?_⟩
 rw [hlen] at hi
 obtain ⟨b, off, cs, rfl, hc, hr⟩ := hel (k + i) (by omega)
 refine ⟨b, off + k * r.cells, cs, by simp [Addr.add], fun j u hj => ?_, by simpa using hr⟩
 have := hc j u hj
 rw [Nat.add_mul, ← Nat.add_assoc] at this
 exact this
theorem RdS.sufE {α : Type} {r : Rep α} {w : World} {o : Option Addr} {m k : Nat} {l : List α} (h : RdS r w (.slice o m k) l) (_ : k ≤ l.length) : RdS r w (.slice o 0 0) (l.drop k) := by
 have h1 := h.capLe
 have h2 : l.drop k = [] := List.drop_of_length_le (by omega)
 rw [h2]
 exact RdS.emp r w o 0 (Nat.zero_le _) (fun _ => rfl)
set_option maxRecDepth 100000 in
set_option maxHeartbeats 4000000 in
theorem i_Splice (a b : Seg) (i j : Int) (va vb : Value) (w : World) (ra : RdS Hop.rep w va a.hops) (rb : RdS Hop.rep w vb b.hops) (hla : a.hops.length ≤ 1000) (hlb : b.hops.length ≤ 1000) :
  Calls Try.prog 24 #[.agg #[.int .i64 a.ts, .int .i64 a.beta, va], .int .i64 i, .agg #[.int .i64 b.ts, .int .i64 b.beta, vb], .int .i64 j] w fun e w' => ∃ v', e = .returned (.agg #[.int .i64 (splice a i b j).ts, .int .i64 (splice a i b j).beta, v']) ∧ OwnF Hop.f 5 w.heap.size 108 w' v' (splice a i b j).hops ∧ Ext w w' := by
 obtain ⟨E⟩ := elemHop
 obtain ⟨oa, ca, rfl, _⟩ := ra.shape
 obtain ⟨ob, cb, rfl, _⟩ := rb.shape
 have hx0 := ext3 w (.cells #[.int .i64 a.ts, .int .i64 a.beta, .slice oa a.hops.length ca] 60) (.cells #[.int .i64 b.ts, .int .i64 b.beta, .slice ob b.hops.length cb] 60) (.cells #[.int .i64 0, .int .i64 0, .slice none 0 0] 60)
 have HB0 := Lib.hid (al3 w (.cells #[.int .i64 a.ts, .int .i64 a.beta, .slice oa a.hops.length ca] 60) (.cells #[.int .i64 b.ts, .int .i64 b.beta, .slice ob b.hops.length cb] 60) (.cells #[.int .i64 0, .int .i64 0, .slice none 0 0] 60))
 go_enter Try.func24, Try.ntmps24
 obtain ⟨W0, hW0⟩ : ∃ W0 : World, W0 = (((w.alloc (.cells #[.int .i64 a.ts, .int .i64 a.beta, .slice oa a.hops.length ca] 60)).alloc (.cells #[.int .i64 b.ts, .int .i64 b.beta, .slice ob b.hops.length cb] 60)).alloc (.cells #[.int .i64 0, .int .i64 0, .slice none 0 0] 60)) := ⟨_, rfl⟩
 rw [← hW0] at hx0 HB0
 have hsz : W0.heap.size = w.heap.size + 1 + 1 + 1 := by rw [hW0]; simp
 have cf1 := blk3 HB0.out.1
 have cf2 := blk3 HB0.out.2.1
 have cf3 := blk3 HB0.out.2.2
 go_wp2_with fail
 rw [← hW0]
 clear hW0
 have HSZ := Lib.hid hsz
 clear hsz
 refine (i_InRange _ _ _ _).mono ?_
 rintro e _ ⟨rfl, rfl⟩
 cases b1 : inR i 0 a.hops.length
 ·
  have HN := Lib.hid (splice_no (a := a) (b := b) (i := i) (j := j) (by simp [b1]))
  have HRB := Lib.hid HB0.out.2.2
  have HR2 := Lib.hid (blk_set3 HRB.out (.int .i64 0) (.int .i64 0) (.slice none 0 0))
  have ff0 := fr_of HRB.out 0
  have ff1 := fr_of HRB.out 1
  have ff2 := fr_of HRB.out 2
  go_wp2_with fail
  try clear cf1
  try clear cf2
  try clear cf3
  have cc := blk3 HR2.out
  refine bodyPost_ret (v := .agg #[.int .i64 0, .int .i64 0, .slice none 0 0]) (by simp [results, Try.results24, go_sem, cc]) rfl ?_
  exact ⟨.slice none 0 0, by rw [HN.out], by rw [HN.out]; exact OwnF.nil _ _ _ _ _, ext_set3 hx0 (by omega) _ _ _⟩
 ·
  go_wp2_with fail
  refine (i_InRange _ _ _ _).mono ?_
  rintro e _ ⟨rfl, rfl⟩
  cases b2 : inR j 0 b.hops.length
  ·
   have HN := Lib.hid (splice_no (a := a) (b := b) (i := i) (j := j) (by simp [b1, b2]))
   have HRB := Lib.hid HB0.out.2.2
   have HR2 := Lib.hid (blk_set3 HRB.out (.int .i64 0) (.int .i64 0) (.slice none 0 0))
   have ff0 := fr_of HRB.out 0
   have ff1 := fr_of HRB.out 1
   have ff2 := fr_of HRB.out 2
   go_wp2_with fail
   try clear cf1
   try clear cf2
   try clear cf3
   have cc := blk3 HR2.out
   refine bodyPost_ret (v := .agg #[.int .i64 0, .int .i64 0, .slice none 0 0]) (by simp [results, Try.results24, go_sem, cc]) rfl ?_
   exact ⟨.slice none 0 0, by rw [HN.out], by rw [HN.out]; exact OwnF.nil _ _ _ _ _, ext_set3 hx0 (by omega) _ _ _⟩
  ·
   obtain ⟨hi0, hi1⟩ := inR_true.1 b1
   obtain ⟨hj0, hj1⟩ := inR_true.1 b2
   obtain ⟨i, rfl⟩ := Int.eq_ofNat_of_zero_le hi0
   obtain ⟨j, rfl⟩ := Int.eq_ofNat_of_zero_le hj0
   have hca := ra.capLe
   have hcb := rb.capLe
   have hi2 : i ≤ a.hops.length := by omega
   have hj2 : j ≤ b.hops.length := by omega
   have HN := Lib.hid (splice_yes hi2 hj2)
   have hta : (a.hops.take i).length ≤ 1000 := Nat.le_trans (List.length_take_le' _ _) hla
   have htb : (b.hops.drop j).length ≤ 1000 := Nat.le_trans (by simp) hlb
   have hica : i ≤ ca := by omega
   have hjc : j = cb ∨ j < cb := by omega
   rcases hjc with rfl | hjc
   ·
    go_wp2_with fail
    refine wp_region_set (fun k => k = w.heap.size + 1 + 1 ∨ W0.heap.size ≤ k) [([0, 1, 2, 3, 4, 5, 6, 7, 9, 10, 11, 12], 8), ([], 13), ([14], 15)] [] (by kernel_rfl) (by kernel_rfl) (by kernel_rfl) ?_
    have q0 := ChgSW.cell (S := fun k => k = w.heap.size + 1 + 1 ∨ W0.heap.size ≤ k) (cf1.1) (by have h1 := HSZ.out; simp only; omega)
    have q1 := ChgSW.cell (S := fun k => k = w.heap.size + 1 + 1 ∨ W0.heap.size ≤ k) (cf1.2.1) (by have h1 := HSZ.out; simp only; omega)
    have q2 := ChgSW.cell (S := fun k => k = w.heap.size + 1 + 1 ∨ W0.heap.size ≤ k) (cf1.2.2) (by have h1 := HSZ.out; simp only; omega)
    have q3 := ChgSW.cell (S := fun k => k = w.heap.size + 1 + 1 ∨ W0.heap.size ≤ k) (cf2.1) (by have h1 := HSZ.out; simp only; omega)
    have q4 := ChgSW.cell (S := fun k => k = w.heap.size + 1 + 1 ∨ W0.heap.size ≤ k) (cf2.2.1) (by have h1 := HSZ.out; simp only; omega)
    have q5 := ChgSW.cell (S := fun k => k = w.heap.size + 1 + 1 ∨ W0.heap.size ≤ k) (cf2.2.2) (by have h1 := HSZ.out; simp only; omega)
    try clear cf1
    try clear cf2
    try clear cf3
    simp only [wpBlocks, pickOps, List.filterMap_cons, List.filterMap_nil, List.getElem?_toArray, List.getElem?_cons_zero, List.getElem?_cons_succ]
    repeat (first | go_big_quiet_step (fail) | quiet_step (fail))
    refine wpQuiet_nil ?_
    go_wp2_with fail
    refine (i_copyHops (a.hops.take i) _ _ ((ra.ext hx0.drew).pre i hi2) (by omega)).mono ?_
    rintro e w2 ⟨v2, rfl, oq, hz2⟩
    have hxq := (Ext.refl W0).drew.trans hz2
    go_wp2_with fail
    refine ⟨⟨⟨_, Chg.ofExt hxq⟩, rfl⟩, ?_⟩
    repeat (first | go_big_quiet_step (fail) | quiet_step (fail))
    refine wpQuiet_nil ?_
    refine appS E Hop.flen Hop.one rfl _ _ rfl (b.hops.drop j) rfl oq rfl ((rb.ext (hx0.trans hxq)).sufE hj2) (by omega) (by unfold maxLen; omega) hz2.size ?_
    intro v3 w3 o3 hg3
    have hx3 := hxq.app hg3 oq (by simp)
    have HX3 := Lib.hid hx3
    have HRB := Lib.hid (Ext.block hx3 HB0.out.2.2)
    generalize hlo : a.hops.take i ++ b.hops.drop j = lo at o3
    have HLO := Lib.hid hlo
    clear hlo
    have HO3 := Lib.hid (o3.mono (base' := w.heap.size) (by have h1 := HSZ.out; simp; omega))
    obtain ⟨o', c', rfl, _⟩ := (OwnF.rd (hf := Hop.flen) o3).shape
    clear hg3 o3
    go_wp2_with fail
    refine ⟨⟨⟨_, Chg.ofExt hx3⟩, rfl⟩, ?_⟩
    repeat (first | go_big_quiet_step (fail) | quiet_step (fail))
    refine wpQuiet_nil ?_
    have HR2 := Lib.hid (blk_set3 HRB.out (.int .i64 a.ts) (.int .i64 a.beta) (.slice o' lo.length c'))
    have ff0 := fr_of HRB.out 0
    have ff1 := fr_of HRB.out 1
    have ff2 := fr_of HRB.out 2
    have cR := blk3 HRB.out
    go_wp2_with fail
    clear cR ff0 ff1 ff2
    refine ⟨⟨⟨_, ?_⟩, rfl⟩, ?_⟩
    ·
     exact Chg.setC (p := ⟨w.heap.size + 1 + 1, 2, none⟩) (Chg.setC (p := ⟨w.heap.size + 1 + 1, 1, none⟩) (Chg.setC (p := ⟨w.heap.size + 1 + 1, 0, none⟩) (Chg.ofExt HX3.out) (.inl rfl) _) (.inl rfl) _) (.inl rfl) _
    repeat (first | go_big_quiet_step (fail) | quiet_step (fail))
    refine wpQuiet_nil ?_
    refine NoPanic.normal ?_
    clear q0 q1 q2 q3 q4 q5
    go_wp2_with fail
    have cc := blk3 HR2.out
    refine bodyPost_ret (v := .agg #[.int .i64 a.ts, .int .i64 a.beta, .slice o' lo.length c']) (by simp [results, Try.results24, go_sem, cc]) rfl ?_
    exact ⟨_, by rw [HN.out], by rw [HN.out]; simp only [HLO.out]; exact HO3.out.chg (S := fun k => k = w.heap.size + 1 + 1) (Chg.setC (S := fun k => k = w.heap.size + 1 + 1) (p := ⟨w.heap.size + 1 + 1, 2, none⟩) (Chg.setC (S := fun k => k = w.heap.size + 1 + 1) (p := ⟨w.heap.size + 1 + 1, 1, none⟩) (Chg.setC (S := fun k => k = w.heap.size + 1 + 1) (p := ⟨w.heap.size + 1 + 1, 0, none⟩) (Chg.refl _ _) rfl _) rfl _) rfl _) (fun k hk e => HO3.out.ne HRB.out (by decide) (by rw [hk, e])), ext_set3 (hx0.trans HX3.out) (by omega) _ _ _⟩
   ·
    have hjcb : j ≤ cb := by omega
    have hjne : ¬ cb = j := by omega
    go_wp2_with fail
    refine wp_region_set (fun k => k = w.heap.size + 1 + 1 ∨ W0.heap.size ≤ k) [([0, 1, 2, 3, 4, 5, 6, 7, 9, 10, 11, 12], 8), ([], 13), ([14], 15)] [] (by kernel_rfl) (by kernel_rfl) (by kernel_rfl) ?_
    have q0 := ChgSW.cell (S := fun k => k = w.heap.size + 1 + 1 ∨ W0.heap.size ≤ k) (cf1.1) (by have h1 := HSZ.out; simp only; omega)
    have q1 := ChgSW.cell (S := fun k => k = w.heap.size + 1 + 1 ∨ W0.heap.size ≤ k) (cf1.2.1) (by have h1 := HSZ.out; simp only; omega)
    have q2 := ChgSW.cell (S := fun k => k = w.heap.size + 1 + 1 ∨ W0.heap.size ≤ k) (cf1.2.2) (by have h1 := HSZ.out; simp only; omega)
    have q3 := ChgSW.cell (S := fun k => k = w.heap.size + 1 + 1 ∨ W0.heap.size ≤ k) (cf2.1) (by have h1 := HSZ.out; simp only; omega)
    have q4 := ChgSW.cell (S := fun k => k = w.heap.size + 1 + 1 ∨ W0.heap.size ≤ k) (cf2.2.1) (by have h1 := HSZ.out; simp only; omega)
    have q5 := ChgSW.cell (S := fun k => k = w.heap.size + 1 + 1 ∨ W0.heap.size ≤ k) (cf2.2.2) (by have h1 := HSZ.out; simp only; omega)
    try clear cf1
    try clear cf2
    try clear cf3
    simp only [wpBlocks, pickOps, List.filterMap_cons, List.filterMap_nil, List.getElem?_toArray, List.getElem?_cons_zero, List.getElem?_cons_succ]
    repeat (first | go_big_quiet_step (fail) | quiet_step (fail))
    refine wpQuiet_nil ?_
    go_wp2_with fail
    refine (i_copyHops (a.hops.take i) _ _ ((ra.ext hx0.drew).pre i hi2) (by omega)).mono ?_
    rintro e w2 ⟨v2, rfl, oq, hz2⟩
    have hxq := (Ext.refl W0).drew.trans hz2
    go_wp2_with fail
    refine ⟨⟨⟨_, Chg.ofExt hxq⟩, rfl⟩, ?_⟩
    repeat (first | go_big_quiet_step (fail) | quiet_step (fail))
    refine wpQuiet_nil ?_
    refine appS E Hop.flen Hop.one rfl _ _ rfl (b.hops.drop j) rfl oq rfl ((rb.ext (hx0.trans hxq)).sufO j hj2) (by omega) (by unfold maxLen; omega) hz2.size ?_
    intro v3 w3 o3 hg3
    have hx3 := hxq.app hg3 oq (by simp)
    have HX3 := Lib.hid hx3
    have HRB := Lib.hid (Ext.block hx3 HB0.out.2.2)
    generalize hlo : a.hops.take i ++ b.hops.drop j = lo at o3
    have HLO := Lib.hid hlo
    clear hlo
    have HO3 := Lib.hid (o3.mono (base' := w.heap.size) (by have h1 := HSZ.out; simp; omega))
    obtain ⟨o', c', rfl, _⟩ := (OwnF.rd (hf := Hop.flen) o3).shape
    clear hg3 o3
    go_wp2_with fail
    refine ⟨⟨⟨_, Chg.ofExt hx3⟩, rfl⟩, ?_⟩
    repeat (first | go_big_quiet_step (fail) | quiet_step (fail))
    refine wpQuiet_nil ?_
    have HR2 := Lib.hid (blk_set3 HRB.out (.int .i64 a.ts) (.int .i64 a.beta) (.slice o' lo.length c'))
    have ff0 := fr_of HRB.out 0
    have ff1 := fr_of HRB.out 1
    have ff2 := fr_of HRB.out 2
    have cR := blk3 HRB.out
    go_wp2_with fail
    clear cR ff0 ff1 ff2
    refine ⟨⟨⟨_, ?_⟩, rfl⟩, ?_⟩
    ·
     exact Chg.setC (p := ⟨w.heap.size + 1 + 1, 2, none⟩) (Chg.setC (p := ⟨w.heap.size + 1 + 1, 1, none⟩) (Chg.setC (p := ⟨w.heap.size + 1 + 1, 0, none⟩) (Chg.ofExt HX3.out) (.inl rfl) _) (.inl rfl) _) (.inl rfl) _
    repeat (first | go_big_quiet_step (fail) | quiet_step (fail))
    refine wpQuiet_nil ?_
    refine NoPanic.normal ?_
    clear q0 q1 q2 q3 q4 q5
    go_wp2_with fail
    have cc := blk3 HR2.out
    refine bodyPost_ret (v := .agg #[.int .i64 a.ts, .int .i64 a.beta, .slice o' lo.length c']) (by simp [results, Try.results24, go_sem, cc]) rfl ?_
    exact ⟨_, by rw [HN.out], by rw [HN.out]; simp only [HLO.out]; exact HO3.out.chg (S := fun k => k = w.heap.size + 1 + 1) (Chg.setC (S := fun k => k = w.heap.size + 1 + 1) (p := ⟨w.heap.size + 1 + 1, 2, none⟩) (Chg.setC (S := fun k => k = w.heap.size + 1 + 1) (p := ⟨w.heap.size + 1 + 1, 1, none⟩) (Chg.setC (S := fun k => k = w.heap.size + 1 + 1) (p := ⟨w.heap.size + 1 + 1, 0, none⟩) (Chg.refl _ _) rfl _) rfl _) rfl _) (fun k hk e => HO3.out.ne HRB.out (by decide) (by rw [hk, e])), ext_set3 (hx0.trans HX3.out) (by omega) _ _ _⟩
theorem badFrom_no {t : Topo} {s : Seg} {k : Nat} (hk : k < s.hops.length) (h : verHop t s.ts (betaAt s k) s.hops[k] = false) : badFrom t s (s.hops.length - k) k = k := by
 obtain ⟨n, hn⟩ : ∃ n, s.hops.length - k = n + 1 := ⟨s.hops.length - k - 1, by omega⟩
 rw [hn]; unfold badFrom; rw [hopAt_get hk, h]; simp
theorem badFrom_yes {t : Topo} {s : Seg} {k : Nat} (hk : k < s.hops.length) (h : verHop t s.ts (betaAt s k) s.hops[k] = true) : badFrom t s (s.hops.length - k) k = badFrom t s (s.hops.length - (k + 1)) (k + 1) := by
 obtain ⟨n, hn⟩ : ∃ n, s.hops.length - k = n + 1 := ⟨s.hops.length - k - 1, by omega⟩
 rw [hn, show s.hops.length - (k + 1) = n by omega]
 conv => lhs; unfold badFrom
 rw [hopAt_get hk, h]; simp
set_option maxRecDepth 100000 in
set_option maxHeartbeats 4000000 in
theorem i_FirstInvalidHop (t : Topo) (v1 v2 : Value) (s : Seg) (v : Value) (w : World) (ha : RdS ASd.rep w v1 t.ases) (r : RdS Hop.rep w v s.hops) (hl : s.hops.length ≤ 1048576) :
  Calls Try.prog 61 #[.agg #[v1, v2], .agg #[.int .i64 s.ts, .int .i64 s.beta, v]] w fun e w' => e = .returned (.int .i64 (firstBad t s)) ∧ Ext w w' := by
 obtain ⟨o, cap, rfl, hsm⟩ := r.shape
 have hx0 := ext2 w (.cells #[v1, v2] 41) (.cells #[.int .i64 s.ts, .int .i64 s.beta, .slice o s.hops.length cap] 60)
 have HB0 := Lib.hid (al2 w (.cells #[v1, v2] 41) (.cells #[.int .i64 s.ts, .int .i64 s.beta, .slice o s.hops.length cap] 60))
 go_enter Try.func61, Try.ntmps61
 obtain ⟨W0, hW0⟩ : ∃ W0 : World, W0 = ((w.alloc (.cells #[v1, v2] 41)).alloc (.cells #[.int .i64 s.ts, .int .i64 s.beta, .slice o s.hops.length cap] 60)) := ⟨_, rfl⟩
 rw [← hW0] at hx0 HB0
 have cf1 := blk2 HB0.out.1
 have cf2 := blk3 HB0.out.2
 go_wp2_with fail
 rw [← hW0]
 clear hW0
 go_loopg [10] s.hops.length (fun gk i wr => ∃ k : Nat, gk + k = s.hops.length ∧ i = .int .i64 k ∧ Hid (firstBad t s = badFrom t s (s.hops.length - k) k) ∧ Ext W0 wr)
 case atStart => exact ⟨0, by omega, rfl, Lib.hid rfl, Ext.refl _⟩
 case round =>
  obtain ⟨k, hgk, rfl, HK, hx⟩ := hrel
  have HGK := Lib.hid hgk
  clear hgk
  have hkl : k ≤ s.hops.length := by have h1 := HGK.out; omega
  by_cases hlt : k < s.hops.length
  ·
   obtain ⟨b, off, rfl, hc⟩ := Hop.at (r.ext (hx0.trans hx)) k hlt
   try clear cf1
   try clear cf2
   have cf3 := blk2 (Ext.block hx HB0.out.1)
   have cf4 := blk3 (Ext.block hx HB0.out.2)
   go_upto_region 4 with (fail)
   try clear cf3
   try clear cf4
   clear hc
   have hx1 : Ext wr (wr.alloc (.cells #[.int .i64 s.hops[k].asn, .int .i64 s.hops[k].ing, .int .i64 s.hops[k].eg, .int .i64 s.hops[k].exp, .int .i64 s.hops[k].mac] 108)) := (Ext.refl _).alloc _
   have HB1 := Lib.hid (blk_new wr (.cells #[.int .i64 s.hops[k].asn, .int .i64 s.hops[k].ing, .int .i64 s.hops[k].eg, .int .i64 s.hops[k].exp, .int .i64 s.hops[k].mac] 108))
   obtain ⟨wa, hwa⟩ : ∃ wa : World, wa = wr.alloc (.cells #[.int .i64 s.hops[k].asn, .int .i64 s.hops[k].ing, .int .i64 s.hops[k].eg, .int .i64 s.hops[k].exp, .int .i64 s.hops[k].mac] 108) := ⟨_, rfl⟩
   rw [← hwa]
   rw [← hwa] at hx1 HB1
   clear hwa
   refine planStep (.blk [0, 1, 2, 3, 4, 6] (.one 5 (.one 7 (.blk [8] .done)))) [] (by kernel_rfl) (by kernel_rfl) ?_
   have cf5 := blk2 (Ext.block ((hx.trans hx1).trans ((Ext.refl _).drew)) HB0.out.1)
   have cf6 := blk3 (Ext.block ((hx.trans hx1).trans ((Ext.refl _).drew)) HB0.out.2)
   have cf7 := blk5 (Ext.block ((Ext.refl _).drew) HB1.out)
   refine blkStep (fun K HKK => ?_)
   simp only [PK]
   go_wp2_with fail
   refine HKK.out _ _ ?_
   clear HKK K
   refine oneStep (fun K HKK => ?_)
   simp only [PK]
   go_wp2_with fail
   refine (i_BetaAt s _ (k : Int) _ (r.ext (((hx0.trans hx).trans hx1).trans ((Ext.refl _).drew))) hl).mono ?_
   rintro e w3 ⟨rfl, hz3⟩
   go_wp2_with fail
   refine HKK.out _ _ hz3 ?_
   clear HKK K
   generalize hbe : betaAt s k = be at *
   have HBE := Lib.hid hbe; clear hbe
   refine oneStep (fun K HKK => ?_)
   simp only [PK]
   go_wp2_with fail
   refine (i_VerifyHop t _ _ _ be s.hops[k] _ (ha.ext ((((hx0.trans hx).trans hx1).trans ((Ext.refl _).drew)).trans hz3))).mono ?_
   rintro e w4 ⟨rfl, hz4⟩
   go_wp2_with fail
   refine HKK.out _ _ hz4 ?_
   clear HKK K
   refine blkStep (fun K HKK => ?_)
   simp only [PK]
   go_wp2_with fail
   refine HKK.out _ _ ?_
   clear HKK K
   refine doneStep (by kernel_rfl) ?_
   rw [← HBE.out]
   clear HBE
   cases b1 : verHop t s.ts (betaAt s k) s.hops[k]
   ·
    have HE := Lib.hid (HK.out.trans (badFrom_no hlt b1))
    try clear cf5
    try clear cf6
    try clear cf7
    have cf8 := blk2 (Ext.block ((((hx.trans hx1).trans ((Ext.refl _).drew)).trans hz3).trans hz4) HB0.out.1)
    have cf9 := blk3 (Ext.block ((((hx.trans hx1).trans ((Ext.refl _).drew)).trans hz3).trans hz4) HB0.out.2)
    have cf10 := blk5 (Ext.block ((((Ext.refl _).drew).trans hz3).trans hz4) HB1.out)
    go_wp2_with fail
    go_ret
    exact ⟨ret_int HE.out.symm, (((((hx0.trans hx).trans hx1).trans ((Ext.refl _).drew)).trans hz3).trans hz4)⟩
   ·
    have HE := Lib.hid (HK.out.trans (badFrom_yes hlt b1))
    try clear cf5
    try clear cf6
    try clear cf7
    have cf11 := blk2 (Ext.block ((((hx.trans hx1).trans ((Ext.refl _).drew)).trans hz3).trans hz4) HB0.out.1)
    have cf12 := blk3 (Ext.block ((((hx.trans hx1).trans ((Ext.refl _).drew)).trans hz3).trans hz4) HB0.out.2)
    have cf13 := blk5 (Ext.block ((((Ext.refl _).drew).trans hz3).trans hz4) HB1.out)
    go_wp2_with fail
    go_roundg (gk - 1)
    case measure => have h1 := HGK.out; omega
    case rel => exact ⟨k + 1, by have h1 := HGK.out; omega, congrArg (Value.int .i64) (by first | omega | (unfold wrap64; omega)), HE, ((((hx.trans hx1).trans ((Ext.refl _).drew)).trans hz3).trans hz4)⟩
  ·
   obtain rfl : k = s.hops.length := by omega
   have HE : Hid (firstBad t s = -1) := Lib.hid (by have := HK.out; rw [Nat.sub_self] at this; exact this)
   try clear cf1
   try clear cf2
   have cf14 := blk2 (Ext.block hx HB0.out.1)
   have cf15 := blk3 (Ext.block hx HB0.out.2)
   go_wp2_with fail
   go_ret
   exact ⟨ret_int HE.out.symm, (hx0.trans hx)⟩
set_option maxRecDepth 100000 in
set_option maxHeartbeats 2000000 in
theorem s_l9Copy (s : Seg) (v : Value) (w : World) (r : RdS Hop.rep w v s.hops) (hl : s.hops.length ≤ 1048576) :
  Calls Try.prog 53 #[.agg #[.int .i64 s.ts, .int .i64 s.beta, v]] w fun e w' => ∃ v', e = .returned (.agg #[.int .i64 s.ts, .int .i64 s.beta, v']) ∧ OwnF Hop.f 5 w.heap.size 108 w' v' s.hops ∧ Ext w w' := by
 obtain ⟨E⟩ := elemHop
 obtain ⟨o, cap, rfl, hsm⟩ := r.shape
 have hx0 := ext2 w (.cells #[.int .i64 s.ts, .int .i64 s.beta, .slice o s.hops.length cap] 60) (.cells #[.int .i64 0, .int .i64 0, .slice none 0 0] 60)
 have HB0 := Lib.hid (al2 w (.cells #[.int .i64 s.ts, .int .i64 s.beta, .slice o s.hops.length cap] 60) (.cells #[.int .i64 0, .int .i64 0, .slice none 0 0] 60))
 go_enter Try.func53, Try.ntmps53
 obtain ⟨W0, hW0⟩ : ∃ W0 : World, W0 = ((w.alloc (.cells #[.int .i64 s.ts, .int .i64 s.beta, .slice o s.hops.length cap] 60)).alloc (.cells #[.int .i64 0, .int .i64 0, .slice none 0 0] 60)) := ⟨_, rfl⟩
 rw [← hW0] at hx0 HB0
 have hsz : W0.heap.size = w.heap.size + 1 + 1 := by rw [hW0]; simp
 have cf1 := blk3 HB0.out.1
 have cf2 := blk3 HB0.out.2
 go_wp2_with fail
 rw [← hW0]
 clear hW0
 have HSZ := Lib.hid hsz
 clear hsz
 go_wp2_with fail
 refine wp_region_set (fun k => k = w.heap.size + 1 ∨ W0.heap.size ≤ k) [([0, 1, 2, 3, 5, 6], 4), ([], 7), ([8], 9)] [] (by kernel_rfl) (by kernel_rfl) (by kernel_rfl) ?_
 have q0 := ChgSW.cell (S := fun k => k = w.heap.size + 1 ∨ W0.heap.size ≤ k) (cf1.1) (by have h1 := HSZ.out; simp only; omega)
 have q1 := ChgSW.cell (S := fun k => k = w.heap.size + 1 ∨ W0.heap.size ≤ k) (cf1.2.1) (by have h1 := HSZ.out; simp only; omega)
 have q2 := ChgSW.cell (S := fun k => k = w.heap.size + 1 ∨ W0.heap.size ≤ k) (cf1.2.2) (by have h1 := HSZ.out; simp only; omega)
 try clear cf1
 try clear cf2
 simp only [wpBlocks, pickOps, List.filterMap_cons, List.filterMap_nil, List.getElem?_toArray, List.getElem?_cons_zero, List.getElem?_cons_succ]
 repeat (first | go_big_quiet_step (fail) | quiet_step (fail))
 refine wpQuiet_nil ?_
 go_wp2_with fail
 have hxd : Ext W0 (W0.drew.alloc (.cells #[] 108)) := (Ext.refl W0).drew.alloc _
 refine ⟨⟨⟨_, Chg.ofExt hxd⟩, rfl⟩, ?_⟩
 repeat (first | go_big_quiet_step (fail) | quiet_step (fail))
 refine wpQuiet_nil ?_
 refine appE (g := W0.heap.size) E Hop.flen Hop.one rfl _ _ rfl s.hops rfl (OwnF.empty Hop.f 5 W0.heap.size 108 W0.drew (by simp)) rfl (r.ext (hx0.trans hxd)) (by omega) (by unfold maxLen; omega) (by simp) ?_
 intro v2 w2 oq hz2
 have hxq := hxd.trans hz2
 have HX3 := Lib.hid hxq
 have HRB := Lib.hid (Ext.block hxq HB0.out.2)
 have HO3 := Lib.hid (oq.mono (base' := w.heap.size) (by have h1 := HSZ.out; omega))
 obtain ⟨o', c', rfl, _⟩ := (OwnF.rd (hf := Hop.flen) oq).shape
 clear oq
 go_wp2_with fail
 refine ⟨⟨⟨_, Chg.ofExt hxq⟩, rfl⟩, ?_⟩
 repeat (first | go_big_quiet_step (fail) | quiet_step (fail))
 refine wpQuiet_nil ?_
 have HR2 := Lib.hid (blk_set3 HRB.out (.int .i64 s.ts) (.int .i64 s.beta) (.slice o' s.hops.length c'))
 have ff0 := fr_of HRB.out 0
 have ff1 := fr_of HRB.out 1
 have ff2 := fr_of HRB.out 2
 have cR := blk3 HRB.out
 go_wp2_with fail
 clear cR ff0 ff1 ff2
 refine ⟨⟨⟨_, ?_⟩, rfl⟩, ?_⟩
 ·
  exact Chg.setC (p := ⟨w.heap.size + 1, 2, none⟩) (Chg.setC (p := ⟨w.heap.size + 1, 1, none⟩) (Chg.setC (p := ⟨w.heap.size + 1, 0, none⟩) (Chg.ofExt HX3.out) (.inl rfl) _) (.inl rfl) _) (.inl rfl) _
 repeat (first | go_big_quiet_step (fail) | quiet_step (fail))
 refine wpQuiet_nil ?_
 refine NoPanic.normal ?_
 clear q0 q1 q2
 go_wp2_with fail
 have cc := blk3 HR2.out
 refine bodyPost_ret (v := .agg #[.int .i64 s.ts, .int .i64 s.beta, .slice o' s.hops.length c']) (by simp [results, Try.results53, go_sem, cc]) rfl ?_
 exact ⟨_, rfl, HO3.out.chg (S := fun k => k = w.heap.size + 1) (Chg.setC (S := fun k => k = w.heap.size + 1) (p := ⟨w.heap.size + 1, 2, none⟩) (Chg.setC (S := fun k => k = w.heap.size + 1) (p := ⟨w.heap.size + 1, 1, none⟩) (Chg.setC (S := fun k => k = w.heap.size + 1) (p := ⟨w.heap.size + 1, 0, none⟩) (Chg.refl _ _) rfl _) rfl _) rfl _) (fun k hk e => HO3.out.ne HRB.out (by decide) (by rw [hk, e])), ext_set3 (hx0.trans HX3.out) (by omega) _ _ _⟩
end
end Go.Proofs.Ytcpfmhgfaliemaa
