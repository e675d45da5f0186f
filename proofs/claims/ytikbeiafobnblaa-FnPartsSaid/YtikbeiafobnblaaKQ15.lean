/- What these laws need: FnFinishes, FnLeases, FnParts: Contracts of segments: their chaining values, codes and ASes; joins of segments. -/
import Derived.Test.YtikbeiafobnblaaKQ14
namespace Go.Proofs.Ytikbeiafobnblaa
section
open Go.ChangeShapes Go.WideShapes Go.ChangeAt Go.RowKit Go.Deep
theorem RdS.pre {α : Type} {r : Rep α} {w : World} {o : Option Addr} {m cap : Nat} {l : List α} (h : RdS r w (.slice o m cap) l) (k : Nat) (hk : k ≤ l.length) : RdS r w (.slice o k cap) (l.take k) := by
 obtain ⟨o', cap', hv, c1, c2, hn, hel⟩ := h
 cases hv
 have hlen : (l.take k).length = k := by simp; omega
 refine ⟨_, _, by rw [hlen], by rw [hlen]; omega, c2, hn, fun i hi => ?_⟩
 obtain ⟨b, off, cs, hb, hc, hr⟩ := hel i (by omega)
 exact ⟨b, off, cs, hb, hc, by simpa using hr⟩
theorem RdS.emp {α : Type} (r : Rep α) (w : World) (o : Option Addr) (c : Nat) (h : c ≤ maxLen) (hn : o = none → c = 0) : RdS r w (.slice o 0 c) [] :=
 ⟨o, c, rfl, Nat.zero_le _, h, hn, fun i hi => absurd hi (by simp)⟩
set_option maxRecDepth 100000 in
set_option maxHeartbeats 1000000 in
theorem s_SegmentASes (s : Seg) (v : Value) (w : World) (r : RdS Hop.rep w v s.hops) (hl : s.hops.length ≤ 1048576) :
  Calls Try.prog 175 #[.agg #[.int .i64 s.ts, .int .i64 s.beta, v]] w fun e w' => ∃ v', e = .returned v' ∧ OwnF intF 1 w.heap.size 3 w' v' (s.hops.map (·.asn)) ∧ Ext w w' := by
 obtain ⟨o, cap, rfl, hsm⟩ := r.shape
 obtain ⟨E⟩ := elemInt
 obtain ⟨ml, hml⟩ : ∃ ml, ml = s.hops.map (·.asn) := ⟨_, rfl⟩
 have hlm : ml.length = s.hops.length := by rw [hml]; simp
 have HAT : Hid (∀ (k : Nat) (h : k < ml.length) (h' : k < s.hops.length), ml[k] = s.hops[k].asn) := Lib.hid (by intro k h h'; subst hml; simp)
 rw [← hml]
 clear hml
 have HLM := Lib.hid hlm; clear hlm
 have hx0 : Ext w (w.alloc (.cells #[.int .i64 s.ts, .int .i64 s.beta, .slice o s.hops.length cap] 60)) := (Ext.refl _).alloc _
 have HB0 := Lib.hid (blk_new w (.cells #[.int .i64 s.ts, .int .i64 s.beta, .slice o s.hops.length cap] 60))
 go_enter Try.func175, Try.ntmps175
 have ho0 := OwnF.empty intF 1 (w.alloc (.cells #[.int .i64 s.ts, .int .i64 s.beta, .slice o s.hops.length cap] 60)).heap.size 3 (w.alloc (.cells #[.int .i64 s.ts, .int .i64 s.beta, .slice o s.hops.length cap] 60)) (Nat.le_refl _)
 simp only [nblk_alloc] at ho0
 go_wp2
 go_loopg [3, 4] s.hops.length (fun gk out i wr => ∃ k : Nat, gk + k = s.hops.length ∧ i = .int .i64 k ∧ OwnF intF 1 (w.heap.size + 1) 3 wr out (ml.take k) ∧ Ext (w.alloc (.cells #[.int .i64 s.ts, .int .i64 s.beta, .slice o s.hops.length cap] 60)) wr)
 case atStart => exact ⟨0, by omega, rfl, ho0, (Ext.refl _).alloc _⟩
 case round =>
  obtain ⟨k, hgk, rfl, hown, hx⟩ := hrel
  clear ho0
  by_cases hlt : k < s.hops.length
  ·
   have hg' : gk - 1 + (k + 1) = s.hops.length ∧ gk - 1 < gk := by omega
   have HG := Lib.hid hg'; clear hg' hgk
   have hlx : k < s.hops.length := by omega
   obtain ⟨b, off, rfl, hc⟩ := Hop.at (r.ext (hx0.trans hx)) k hlx
   have hkm : k < ml.length := by rw [HLM.out]; exact hlt
   have HS := Lib.hid (show ml.take k ++ [s.hops[k].asn] = ml.take (k + 1) by rw [List.take_succ_eq_append_getElem hkm, HAT.out k hkm hlx])
   have hln : (ml.take k).length ≤ k := List.length_take_le _ _
   clear hkm
   have cf1 := blk3 (Ext.block hx HB0.out)
   go_wp2_with (at_builtin; refine app1 E intFlen intOne rfl _ _ rfl s.hops[k].asn rfl (hown.ext ((Ext.refl _).alloc _)) rfl (by exact blk_list (intF s.hops[k].asn) (blk_new wr _)) (by omega) (by unfold maxLen; omega) (by have := (hx.alloc (.cells #[.int .i64 s.hops[k].asn] 3)).size; simpa using this) ?_)
   intro v' w' ho' hg'
   have hx' := (hx.alloc (.cells #[.int .i64 s.hops[k].asn] 3)).app (e := 3) hg' hown (by simp)
   rw [HS.out] at ho'
   clear hg' hown
   go_wp2_with fail
   go_roundg (gk - 1)
   case measure => exact HG.out.2
   case rel => exact ⟨k + 1, HG.out.1, by go_num, ho', hx'⟩
  ·
   have HXS := Lib.hid (show ml.take k = ml by rw [List.take_of_length_le (by rw [HLM.out]; omega)])
   rw [HXS.out] at hown
   have cf2 := blk3 (Ext.block hx HB0.out)
   go_wp2_with fail
   go_ret
   exact ⟨_, rfl, hown.mono (Nat.le_succ _), (hx0.trans hx)⟩
set_option maxRecDepth 100000 in
set_option maxHeartbeats 1000000 in
theorem s_l9Seals (s : Seg) (v : Value) (n : Nat) (w : World) (r : RdS Hop.rep w v s.hops) (hl : s.hops.length ≤ 1048576) (hn : n ≤ s.hops.length) :
  Calls Try.prog 191 #[.agg #[.int .i64 s.ts, .int .i64 s.beta, v], .int .i64 n] w fun e w' => ∃ v', e = .returned v' ∧ OwnF intF 1 w.heap.size 3 w' v' ((s.hops.take n).map (·.mac)) ∧ Ext w w' := by
 obtain ⟨o, cap, rfl, hsm⟩ := r.shape
 obtain ⟨E⟩ := elemInt
 obtain ⟨ml, hml⟩ : ∃ ml, ml = (s.hops.take n).map (·.mac) := ⟨_, rfl⟩
 have hlm : ml.length = n := by rw [hml]; simp; omega
 have HAT : Hid (∀ (k : Nat) (h : k < ml.length) (h' : k < s.hops.length), ml[k] = s.hops[k].mac) := Lib.hid (by intro k h h'; subst hml; simp)
 rw [← hml]
 clear hml
 have HLM := Lib.hid hlm; clear hlm
 have hx0 : Ext w (w.alloc (.cells #[.int .i64 s.ts, .int .i64 s.beta, .slice o s.hops.length cap] 60)) := (Ext.refl _).alloc _
 have HB0 := Lib.hid (blk_new w (.cells #[.int .i64 s.ts, .int .i64 s.beta, .slice o s.hops.length cap] 60))
 go_enter Try.func191, Try.ntmps191
 have ho0 := OwnF.empty intF 1 (w.alloc (.cells #[.int .i64 s.ts, .int .i64 s.beta, .slice o s.hops.length cap] 60)).heap.size 3 (w.alloc (.cells #[.int .i64 s.ts, .int .i64 s.beta, .slice o s.hops.length cap] 60)) (Nat.le_refl _)
 simp only [nblk_alloc] at ho0
 go_wp2
 go_loopg [5, 6] n (fun gk out i wr => ∃ k : Nat, gk + k = n ∧ i = .int .i64 k ∧ OwnF intF 1 (w.heap.size + 1) 3 wr out (ml.take k) ∧ Ext (w.alloc (.cells #[.int .i64 s.ts, .int .i64 s.beta, .slice o s.hops.length cap] 60)) wr)
 case atStart => exact ⟨0, by omega, rfl, ho0, (Ext.refl _).alloc _⟩
 case round =>
  obtain ⟨k, hgk, rfl, hown, hx⟩ := hrel
  clear ho0
  by_cases hlt : k < n
  ·
   have hg' : gk - 1 + (k + 1) = n ∧ gk - 1 < gk := by omega
   have HG := Lib.hid hg'; clear hg' hgk
   have hlx : k < s.hops.length := by omega
   obtain ⟨b, off, rfl, hc⟩ := Hop.at (r.ext (hx0.trans hx)) k hlx
   have hkm : k < ml.length := by rw [HLM.out]; exact hlt
   have HS := Lib.hid (show ml.take k ++ [s.hops[k].mac] = ml.take (k + 1) by rw [List.take_succ_eq_append_getElem hkm, HAT.out k hkm hlx])
   have hln : (ml.take k).length ≤ k := List.length_take_le _ _
   clear hkm
   have cf1 := blk3 (Ext.block hx HB0.out)
   go_wp2_with (at_builtin; refine app1 E intFlen intOne rfl _ _ rfl s.hops[k].mac rfl (hown.ext ((Ext.refl _).alloc _)) rfl (by exact blk_list (intF s.hops[k].mac) (blk_new wr _)) (by omega) (by unfold maxLen; omega) (by have := (hx.alloc (.cells #[.int .i64 s.hops[k].mac] 3)).size; simpa using this) ?_)
   intro v' w' ho' hg'
   have hx' := (hx.alloc (.cells #[.int .i64 s.hops[k].mac] 3)).app (e := 3) hg' hown (by simp)
   rw [HS.out] at ho'
   clear hg' hown
   go_wp2_with fail
   go_roundg (gk - 1)
   case measure => exact HG.out.2
   case rel => exact ⟨k + 1, HG.out.1, by go_num, ho', hx'⟩
  ·
   have HXS := Lib.hid (show ml.take k = ml by rw [List.take_of_length_le (by rw [HLM.out]; omega)])
   rw [HXS.out] at hown
   have cf2 := blk3 (Ext.block hx HB0.out)
   go_wp2_with fail
   go_ret
   exact ⟨_, rfl, hown.mono (Nat.le_succ _), (hx0.trans hx)⟩
set_option maxRecDepth 100000 in
set_option maxHeartbeats 1000000 in
theorem s_BetaAt (s : Seg) (v : Value) (i : Int) (w : World) (r : RdS Hop.rep w v s.hops) (hl : s.hops.length ≤ 1048576) :
  Calls Try.prog 124 #[.agg #[.int .i64 s.ts, .int .i64 s.beta, v], .int .i64 i] w fun e w' => e = .returned (.int .i64 (betaAt s i)) ∧ Ext w w' := by
 obtain ⟨o, cap, rfl, hsm⟩ := r.shape
 have hx0 : Ext w (w.alloc (.cells #[.int .i64 s.ts, .int .i64 s.beta, .slice o s.hops.length cap] 60)) := (Ext.refl _).alloc _
 have HB0 := Lib.hid (blk_new w (.cells #[.int .i64 s.ts, .int .i64 s.beta, .slice o s.hops.length cap] 60))
 go_enter Try.func124, Try.ntmps124
 have cf1 := blk3 HB0.out
 go_wp2_with fail
 refine (s_l1In _ _ _ _).mono ?_
 rintro e _ ⟨rfl, rfl⟩
 cases b : inR i 0 s.hops.length
 ·
  have HE := Lib.hid (show betaAt s i = 0 by unfold betaAt; rw [b]; rfl)
  go_wp2_with fail
  go_ret
  exact ⟨ret_int HE.out.symm, hx0⟩
 ·
  obtain ⟨h0, h1⟩ := inR_true.1 b
  obtain ⟨n, rfl⟩ := Int.eq_ofNat_of_zero_le h0
  have HE := Lib.hid (betaAt_nat (s := s) (k := n) (by omega))
  go_wp2_with fail
  refine planStep (.blk [0, 1, 2, 3] (.one 4 (.one 5 (.blk [6] .done)))) [] (by kernel_rfl) (by kernel_rfl) ?_
  try clear cf1
  have cf2 := blk3 (Ext.block ((Ext.refl _).drew) HB0.out)
  refine blkStep (fun K HK => ?_)
  simp only [PK]
  go_wp2_with fail
  refine HK.out _ _ ?_
  clear HK K
  refine oneStep (fun K HK => ?_)
  simp only [PK]
  go_wp2_with fail
  refine (s_l9Seals s _ n _ (r.ext (hx0.trans ((Ext.refl _).drew))) (by omega) (by omega)).mono ?_
  rintro e w2 ⟨u, rfl, ou, hz2⟩
  go_wp2_with fail
  refine HK.out _ _ hz2 ?_
  clear HK K
  refine oneStep (fun K HK => ?_)
  simp only [PK]
  go_wp2_with fail
  refine (s_ChainAdd s.beta _ _ _ (ints_rep ou)).mono ?_
  rintro e _ ⟨rfl, rfl⟩
  go_wp2_with fail
  refine HK.out _ _ (Ext.refl _) ?_
  clear HK K
  refine blkStep (fun K HK => ?_)
  simp only [PK]
  go_wp2_with fail
  refine HK.out _ _ ?_
  clear HK K
  refine doneStep (by kernel_rfl) ?_
  go_wp2_with fail
  go_ret
  exact ⟨ret_int (by rw [HE.out]; try rw [List.map_take]), (hx0.trans ((Ext.refl _).drew)).trans hz2⟩
set_option maxRecDepth 100000 in
set_option maxHeartbeats 1000000 in
theorem s_AuthenticateHop (key ts beta : Int) (h : Hop) (w : World) :
  Calls Try.prog 178 #[.int .i64 key, .int .i64 ts, .int .i64 beta, .agg #[.int .i64 h.asn, .int .i64 h.ing, .int .i64 h.eg, .int .i64 h.exp, .int .i64 h.mac]] w fun e w' => e = .returned (.agg #[.int .i64 h.asn, .int .i64 h.ing, .int .i64 h.eg, .int .i64 h.exp, .int .i64 (hopMac key ts beta h)]) ∧ Ext w w' := by
 have hx0 := ext3 w (.cells #[.int .i64 h.asn, .int .i64 h.ing, .int .i64 h.eg, .int .i64 h.exp, .int .i64 h.mac] 146) (.cells #[.int .i64 0, .int .i64 0, .int .i64 0, .int .i64 0, .int .i64 0] 146) (.cells #[.int .i64 h.asn, .int .i64 h.ing, .int .i64 h.eg, .int .i64 h.exp, .int .i64 h.mac] 146)
 have HB0 := Lib.hid (al3 w (.cells #[.int .i64 h.asn, .int .i64 h.ing, .int .i64 h.eg, .int .i64 h.exp, .int .i64 h.mac] 146) (.cells #[.int .i64 0, .int .i64 0, .int .i64 0, .int .i64 0, .int .i64 0] 146) (.cells #[.int .i64 h.asn, .int .i64 h.ing, .int .i64 h.eg, .int .i64 h.exp, .int .i64 h.mac] 146))
 go_enter Try.func178, Try.ntmps178
 have cf1 := blk5 HB0.out.1
 have cf2 := blk5 HB0.out.2.1
 have cf3 := blk5 HB0.out.2.2
 go_wp2_with fail
 refine (s_HopMAC key ts beta h _).mono ?_
 rintro e w1 ⟨rfl, hz1⟩
 have HX := Lib.hid (hx0.trans hz1)
 have hb1 := Ext.block hz1 HB0.out.2.1
 have hb2 := Ext.block hz1 HB0.out.2.2
 obtain ⟨wx, hwx, hbx, hcx⟩ := one_set hb2 4 (.int .i64 (hopMac key ts beta h))
 simp only [List.setIfInBounds_toArray, List.set_cons_succ, List.set_cons_zero] at hbx
 have hb3 := hcx.blkS hb1 (by unfold at1; omega)
 obtain ⟨wq, hwq, hbq, hcq⟩ := rs_set hb3 (.int .i64 h.asn) (.int .i64 h.ing) (.int .i64 h.eg) (.int .i64 h.exp) (.int .i64 (hopMac key ts beta h))
 have HWX := Lib.hid hwx
 have HWQ := Lib.hid hwq
 have HBX := Lib.hid hbx
 have HB3 := Lib.hid hb3
 have HBQ := Lib.hid hbq
 have HE := Lib.hid ((HX.out.chg hcx (fun i hi => by have h1 : i = w.heap.size + 1 + 1 := hi; omega)).chg hcq (fun i hi => by have h1 : i = w.heap.size + 1 := hi; omega))
 have ff := fr_of hb2 4
 clear hb1 hwx hwq hbx hb3 hbq hcx hcq
 have cg := blk5 hb2
 clear hb2
 go_upto_region 3 with (fail)
 rw [← HWX.out]
 clear ff cg
 have fR0 := fr_of HB3.out 0
 have fR1 := fr_of HB3.out 1
 have fR2 := fr_of HB3.out 2
 have fR3 := fr_of HB3.out 3
 have fR4 := fr_of HB3.out 4
 have cR := blk5 HB3.out
 have cX := blk5 HBX.out
 try clear cf1
 try clear cf2
 try clear cf3
 go_wp2_with fail
 rw [← HWQ.out]
 clear cR cX fR0 fR1 fR2 fR3 fR4
 have cc := blk5 HBQ.out
 refine bodyPost_ret (v := .agg #[.int .i64 h.asn, .int .i64 h.ing, .int .i64 h.eg, .int .i64 h.exp, .int .i64 (hopMac key ts beta h)]) (by simp [results, Try.results178, go_sem, cc]) rfl ?_
 exact ⟨rfl, HE.out⟩
set_option maxRecDepth 100000 in
set_option maxHeartbeats 2000000 in
theorem s_InterfacesOfKind (t : Topo) (v1 v2 : Value) (r kind : Int) (w : World) (h2 : RdS Lnk.rep w v2 t.links) (hl : t.links.length ≤ 1000) :
  Calls Try.prog 223 #[.agg #[v1, v2], .int .i64 r, .int .i64 kind] w fun e w' => ∃ v', e = .returned v' ∧ OwnF intF 1 w.heap.size 3 w' v' (ifsKind t r kind) ∧ Ext w w' := by
 obtain ⟨E⟩ := elemInt
 obtain ⟨o, cap, rfl, hsm⟩ := h2.shape
 have hx0 : Ext w (w.alloc (.cells #[v1, .slice o t.links.length cap] 41)) := (Ext.refl _).alloc _
 have HB0 := Lib.hid (blk_new w (.cells #[v1, .slice o t.links.length cap] 41))
 go_enter Try.func223, Try.ntmps223
 have ho0 := OwnF.empty intF 1 (w.alloc (.cells #[v1, .slice o t.links.length cap] 41)).heap.size 3 (w.alloc (.cells #[v1, .slice o t.links.length cap] 41)) (Nat.le_refl _)
 have hxe : Ext (w.alloc (.cells #[v1, .slice o t.links.length cap] 41)) ((w.alloc (.cells #[v1, .slice o t.links.length cap] 41)).alloc (.cells #[] 3)) := (Ext.refl _).alloc _
 have cf1 := blk2 (Ext.block hxe HB0.out)
 go_wp2_with fail
 refine (s_Interfaces t v1 _ r _ (h2.ext (hx0.trans hxe)) (by omega)).mono ?_
 rintro e w1 ⟨vi, rfl, oi, hz1⟩
 replace ho0 := ho0.ext hz1
 obtain ⟨li, hli⟩ : ∃ li, li = topoIfs t.links r := ⟨_, rfl⟩
 have hlt := topoIfs_len t.links r
 have HIK := Lib.hid (show ifsKind t r kind = li.filter (fun d => ifKind t r d == kind) by rw [hli]; rfl)
 rw [← hli] at oi hlt
 clear hli
 obtain ⟨oo, co, rfl, _⟩ := (ints_rep oi).shape
 have hat : ∀ q, (Value.slice (some ⟨(w.alloc (.cells #[v1, .slice o t.links.length cap] 41)).heap.size, 0, none⟩) 0 0).ownBlock = some q → (Value.slice oo li.length co).ownBlock ≠ some q := fun q hq e => by
  have h1 := (oi.block q e).1
  have h2 : (w.alloc (.cells #[v1, .slice o t.links.length cap] 41)).heap.size = q := by simpa [Value.ownBlock] using hq
  simp at h1 h2; omega
 have hx1 := (hxe.trans hz1)
 simp only [nblk_alloc] at ho0 hat
 try clear cf1
 have cf2 := blk2 (Ext.block (hxe.trans hz1) HB0.out)
 go_wp2_with fail
 go_loopg [7, 9] li.length (fun gk out i wr => ∃ k : Nat, gk + k = li.length ∧ i = .int .i64 k ∧ OwnF intF 1 (w.heap.size + 1) 3 wr out ((li.take k).filter (fun d => ifKind t r d == kind)) ∧ OwnF intF 1 0 3 wr (.slice oo li.length co) li ∧ (∀ q, out.ownBlock = some q → (Value.slice oo li.length co).ownBlock ≠ some q) ∧ Ext (w.alloc (.cells #[v1, .slice o t.links.length cap] 41)) wr)
 case atStart => exact ⟨0, by omega, rfl, by simpa using ho0, oi.to0, hat, hx1⟩
 case round =>
  clear hat hx1 oi ho0 hz1
  obtain ⟨k, hgk, rfl, ho, oi, hat, hx⟩ := hrel
  have HGK := Lib.hid hgk
  have HAT := Lib.hid hat
  clear hgk hat
  have hkl : k ≤ li.length := by have h1 := HGK.out; omega
  have hln : ((li.take k).filter (fun d => ifKind t r d == kind)).length ≤ k := Nat.le_trans (List.length_filter_le _ _) (List.length_take_le _ _)
  by_cases hlt : k < li.length
  ·
   obtain ⟨b, off, rfl, hc⟩ := ints_at (ints_rep oi) k hlt
   try clear cf2
   have cf3 := blk2 (Ext.block hx HB0.out)
   go_wp2_with fail
   refine planStep (.blk [0, 1, 2, 3, 4, 5, 7] (.one 6 (.blk [8] .done))) [] (by kernel_rfl) (by kernel_rfl) ?_
   try clear cf3
   have cf4 := blk2 (Ext.block (hx.trans ((Ext.refl _).drew)) HB0.out)
   have cf5 := Ext.cell ((Ext.refl _).drew) hc
   refine blkStep (fun K HK => ?_)
   simp only [PK]
   go_wp2_with fail
   refine HK.out _ _ ?_
   clear HK K
   refine oneStep (fun K HK => ?_)
   simp only [PK]
   go_wp2_with fail
   refine (s_InterfaceKind t v1 _ r li[k] _ (h2.ext ((hx0.trans hx).trans ((Ext.refl _).drew)))).mono ?_
   rintro e w3 ⟨rfl, hz3⟩
   go_wp2_with fail
   refine HK.out _ _ hz3 ?_
   clear HK K
   refine blkStep (fun K HK => ?_)
   simp only [PK]
   go_wp2_with fail
   refine HK.out _ _ ?_
   clear HK K
   refine doneStep (by kernel_rfl) ?_
   replace ho := (ho.ext ((Ext.refl _).drew)).ext hz3
   replace oi := (oi.ext ((Ext.refl _).drew)).ext hz3
   cases ht : (ifKind t r li[k] == kind)
   ·
    try clear cf4
    try clear cf5
    have cf6 := blk2 (Ext.block ((hx.trans ((Ext.refl _).drew)).trans hz3) HB0.out)
    have cf7 := Ext.cell (((Ext.refl _).drew).trans hz3) hc
    go_wp2_with fail
    go_roundg (gk - 1)
    case measure => have h1 := HGK.out; omega
    case rel => exact ⟨k + 1, by have h1 := HGK.out; omega, congrArg (Value.int .i64) (by first | omega | (unfold wrap64; omega)), by rw [← filter_neg (α := Int) (fun d => ifKind t r d == kind) hlt (by rw [ht]; simp)]; exact ho, oi, HAT.out, ((hx.trans ((Ext.refl _).drew)).trans hz3)⟩
   ·
    have HX := Lib.hid ((hx.trans ((Ext.refl _).drew)).trans hz3)
    try clear cf4
    try clear cf5
    have cf8 := blk2 (Ext.block ((hx.trans ((Ext.refl _).drew)).trans hz3) HB0.out)
    have cf9 := Ext.cell (((Ext.refl _).drew).trans hz3) hc
    go_wp2_with (at_builtin; refine app1p E intFlen rfl _ _ rfl li[k] (intOne _) rfl (OwnF.ext ho ((Ext.refl _).alloc _)) rfl (by exact blk_list (intF li[k]) (blk_new w3 _)) (by omega) (by unfold maxLen; omega) (by have h1 := HX.out.size; simp at h1 ⊢; omega) ?_)
    intro v' w' ho' hg' hat'
    have hx' := (HX.out.alloc (.cells #[.int .i64 li[k]] 3)).app (e := 3) hg' ho (by simp)
    have oi' := (oi.ext ((Ext.refl w3).alloc (.cells #[.int .i64 li[k]] 3))).chg (chg_own (ho.ext ((Ext.refl w3).alloc (.cells #[.int .i64 li[k]] 3))) hg') (fun q hq h => HAT.out q h hq)
    have hat2 : ∀ q, v'.ownBlock = some q → (Value.slice (some ⟨b, off, none⟩) li.length co).ownBlock ≠ some q := fun q hq e => by
     rcases hat' with h | h
     ·
      exact HAT.out q (by rw [← h]; exact hq) e
     ·
      have h1 := (oi.block q e).2
      rw [h] at hq
      injection hq with hq
      first | omega | (simp at hq; omega)
    have HA2 := Lib.hid hat2
    clear hat2 hat' hg' oi
    try clear cf8
    try clear cf9
    go_wp2_with fail
    go_roundg (gk - 1)
    case measure => have h1 := HGK.out; omega
    case rel => exact ⟨k + 1, by have h1 := HGK.out; omega, congrArg (Value.int .i64) (by first | omega | (unfold wrap64; omega)), by rw [← filter_pos (α := Int) (fun d => ifKind t r d == kind) hlt ht]; exact ho', oi', HA2.out, hx'⟩
  ·
   rw [List.take_of_length_le (by omega)] at ho
   try clear cf2
   have cf10 := blk2 (Ext.block hx HB0.out)
   go_wp2_with fail
   go_ret
   exact ⟨_, rfl, by rw [HIK.out]; exact ho.mono (Nat.le_succ _), (hx0.trans hx)⟩
theorem RdS.sufE {α : Type} {r : Rep α} {w : World} {o : Option Addr} {m k : Nat} {l : List α} (h : RdS r w (.slice o m k) l) (_ : k ≤ l.length) : RdS r w (.slice o 0 0) (l.drop k) := by
 have h1 := h.capLe
 have h2 : l.drop k = [] := List.drop_of_length_le (by omega)
 rw [h2]
 exact RdS.emp r w o 0 (Nat.zero_le _) (fun _ => rfl)
end
end Go.Proofs.Ytikbeiafobnblaa
