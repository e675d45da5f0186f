/- What these laws need: FnFinishes, FnParts: Contracts of segments: their chaining values, codes and ASes; joins of segments. Contracts of what is checked of segments: the first hop that does not verify, ends, expiries, codes struck out. Contracts of well-formed segments, their kinds, and valid and usable ones, program and reference. Contracts of the kinds of segments, and of valid and usable ones, program and reference. -/
import Derived.Test.YtikbeiafobnblaaKQ15
import Derived.Test.YtikbeiafobnblaaKQ18
namespace Go.Proofs.Ytikbeiafobnblaa
section
open Go.ChangeShapes Go.WideShapes Go.ChangeAt Go.RowKit Go.Deep
set_option maxRecDepth 100000 in
set_option maxHeartbeats 1000000 in
theorem i_macsOf (l : List Hop) (v : Value) (w : World) (r : RdS Hop.rep w v l) (hl : l.length ≤ 1048576) :
  Calls Try.prog 189 #[v] w fun e w' => ∃ v', e = .returned v' ∧ OwnF intF 1 w.heap.size 3 w' v' (l.map (·.mac)) ∧ Ext w w' := by
 obtain ⟨o, cap, rfl, hsm⟩ := r.shape
 obtain ⟨E⟩ := elemInt
 obtain ⟨ml, hml⟩ : ∃ ml, ml = l.map (·.mac) := ⟨_, rfl⟩
 have hlm : ml.length = l.length := by rw [hml]; simp
 have HAT : Hid (∀ (k : Nat) (h : k < ml.length) (h' : k < l.length), ml[k] = l[k].mac) := Lib.hid (by intro k h h'; subst hml; simp)
 rw [← hml]
 clear hml
 have HLM := Lib.hid hlm; clear hlm
 go_enter Try.func189, Try.ntmps189
 have ho0 := OwnF.nil intF 1 w.heap.size 3 w
 go_wp2
 go_loopg [3, 8] l.length (fun gk out i wr => ∃ k : Nat, gk + k = l.length ∧ i = .int .i64 k ∧ OwnF intF 1 w.heap.size 3 wr out (ml.take k) ∧ Ext w wr)
 case atStart => exact ⟨0, by omega, rfl, by simpa using ho0, Ext.refl _⟩
 case round =>
  obtain ⟨k, hgk, rfl, hown, hx⟩ := hrel
  clear ho0
  by_cases hlt : k < l.length
  ·
   have hg' : gk - 1 + (k + 1) = l.length ∧ gk - 1 < gk := by omega
   have HG := Lib.hid hg'; clear hg' hgk
   have hlx : k < l.length := by omega
   obtain ⟨b, off, rfl, hc⟩ := Hop.at (r.ext hx) k hlx
   have hkm : k < ml.length := by rw [HLM.out]; exact hlt
   have HS := Lib.hid (show ml.take k ++ [l[k].mac] = ml.take (k + 1) by rw [List.take_succ_eq_append_getElem hkm, HAT.out k hkm hlx])
   have hln : (ml.take k).length ≤ k := List.length_take_le _ _
   clear hkm
   go_wp2_with (at_builtin; refine app1 E intFlen intOne rfl _ _ rfl l[k].mac rfl (hown.ext (((Ext.refl _).alloc _).alloc _)) rfl (by exact blk_list (intF l[k].mac) (blk_new2 wr _ _)) (by omega) (by unfold maxLen; omega) (by have := ((hx.alloc (.cells #[.int .i64 l[k].asn, .int .i64 l[k].ing, .int .i64 l[k].eg, .int .i64 l[k].exp, .int .i64 l[k].mac] 146)).alloc (.cells #[.int .i64 l[k].mac] 3)).size; simpa using this) ?_)
   intro v' w' ho' hg'
   have hx' := ((hx.alloc (.cells #[.int .i64 l[k].asn, .int .i64 l[k].ing, .int .i64 l[k].eg, .int .i64 l[k].exp, .int .i64 l[k].mac] 146)).alloc (.cells #[.int .i64 l[k].mac] 3)).app (e := 3) hg' hown (by simp)
   rw [HS.out] at ho'
   clear hg' hown
   go_wp2_with fail
   go_roundg (gk - 1)
   case measure => exact HG.out.2
   case rel => exact ⟨k + 1, HG.out.1, by go_num, ho', hx'⟩
  ·
   have HXS := Lib.hid (show ml.take k = ml by rw [List.take_of_length_le (by rw [HLM.out]; omega)])
   rw [HXS.out] at hown
   go_wp2_with fail
   go_ret
   exact ⟨_, rfl, hown, hx⟩
set_option maxRecDepth 100000 in
set_option maxHeartbeats 2000000 in
theorem i_BetaAt (s : Seg) (v : Value) (i : Int) (w : World) (r : RdS Hop.rep w v s.hops) (hl : s.hops.length ≤ 1048576) :
  Calls Try.prog 121 #[.agg #[.int .i64 s.ts, .int .i64 s.beta, v], .int .i64 i] w fun e w' => e = .returned (.int .i64 (betaAt s i)) ∧ Ext w w' := by
 obtain ⟨o, cap, rfl, hsm⟩ := r.shape
 have hx0 : Ext w (w.alloc (.cells #[.int .i64 s.ts, .int .i64 s.beta, .slice o s.hops.length cap] 60)) := (Ext.refl _).alloc _
 have HB0 := Lib.hid (blk_new w (.cells #[.int .i64 s.ts, .int .i64 s.beta, .slice o s.hops.length cap] 60))
 go_enter Try.func121, Try.ntmps121
 have cf1 := blk3 HB0.out
 go_wp2_with fail
 refine (i_InRange _ _ _ _).mono ?_
 rintro e _ ⟨rfl, rfl⟩
 cases b : inR i 0 s.hops.length
 ·
  have HE := Lib.hid (show betaAt s i = 0 by unfold betaAt; rw [b]; rfl)
  go_wp2_with fail
  go_ret
  exact ⟨ret_int HE.out.symm, hx0⟩
 ·
  obtain ⟨h0, h1⟩ := inR_true.1 b
  obtain ⟨n, rfl⟩ := Int.eq_ofNat_of_zero_le h0
  have HE := Lib.hid (betaAt_nat (s := s) (k := n) (by omega))
  have hlt : ((s.hops.take n).length : Nat) ≤ n := List.length_take_le _ _
  have hcp := r.capLe
  go_wp2_with fail
  go_wp2_with fail
  refine planStep (.blk [0, 1, 2, 3, 4, 5] (.one 6 (.one 7 (.blk [8] .done)))) [] (by kernel_rfl) (by kernel_rfl) ?_
  try clear cf1
  have cf2 := blk3 (Ext.block ((Ext.refl _).drew) HB0.out)
  refine blkStep (fun K HK => ?_)
  simp only [PK]
  go_wp2_with fail
  refine HK.out _ _ ?_
  clear HK K
  refine oneStep (fun K HK => ?_)
  simp only [PK]
  go_wp2_with fail
  refine (i_macsOf (s.hops.take n) _ _ ((r.ext (hx0.trans ((Ext.refl _).drew))).pre n (by omega)) (by omega)).mono ?_
  rintro e w2 ⟨u, rfl, ou, hz2⟩
  go_wp2_with fail
  refine HK.out _ _ hz2 ?_
  clear HK K
  refine oneStep (fun K HK => ?_)
  simp only [PK]
  go_wp2_with fail
  refine (i_ChainAdd s.beta _ _ _ (ints_rep ou)).mono ?_
  rintro e _ ⟨rfl, rfl⟩
  go_wp2_with fail
  refine HK.out _ _ (Ext.refl _) ?_
  clear HK K
  refine blkStep (fun K HK => ?_)
  simp only [PK]
  go_wp2_with fail
  refine HK.out _ _ ?_
  clear HK K
  refine doneStep (by kernel_rfl) ?_
  go_wp2_with fail
  go_ret
  exact ⟨ret_int (by rw [HE.out]; try rw [List.map_take]), (hx0.trans ((Ext.refl _).drew)).trans hz2⟩
set_option maxRecDepth 100000 in
set_option maxHeartbeats 400000 in
theorem l_sameHops (a : List Hop) (va : Value) (b : List Hop) (vb : Value) (w : World) (ha : RdS Hop.rep w va a) (hb : RdS Hop.rep w vb b) :
  Calls Try.prog 102 #[va, vb] w fun e w' => e = .returned (.bool (decide (a = b))) ∧ Ext w w' := by
 obtain ⟨oa, ca, rfl, hsa⟩ := ha.shape
 obtain ⟨ob, cb, rfl, hsb⟩ := hb.shape
 by_cases hne : a.length = b.length
 ·
  have Hne := Lib.hid hne
  have t1 : ((a.length : Int) != (b.length : Int)) = false := by simp [hne]
  clear hne
  go_enter Try.func102, Try.ntmps102
  go_wp2
  go_loopw [5] (fun i wr => ∃ (k : Nat), k ≤ a.length ∧ i = .int .i64 k ∧ a.take k = b.take k ∧ Ext w wr) (fun i _ => a.length - (intOf i).toNat)
  case atStart => exact ⟨0, Nat.zero_le _, rfl, rfl, Ext.refl _⟩
  case round =>
   obtain ⟨k, hk, rfl, htk, hx⟩ := hrel
   have Htk := Lib.hid htk; clear htk
   by_cases hlt : k < a.length
   ·
    have hlb : k < b.length := by rw [← Hne.out]; exact hlt
    obtain ⟨b1, off1, rfl, hc1⟩ := Hop.at (ha.ext hx) k hlt
    obtain ⟨b2, off2, rfl, hc2⟩ := Hop.at (hb.ext hx) k hlb
    go_wp2
    go_still_tail 8, (by kernel_rfl)
    go_wp2_with fail
    all_goals first
     | (go_ret; exact ⟨ret_bool (Eq.symm (decide_eq_false (by rintro rfl; contradiction))), hx.drew⟩)
     | exact ⟨⟨k + 1, by omega, by go_num, take_snoc2 Htk.out hlt hlb (Hop.ext' (by assumption) (by assumption) (by assumption) (by assumption) (by assumption)), hx.drew⟩, by simp [intOf]; omega⟩
   ·
    have hab : decide (a = b) = true := by
     have := Htk.out
     rw [List.take_of_length_le (by omega), List.take_of_length_le (by rw [← Hne.out]; omega)] at this
     simp [this]
    have Hab := Lib.hid hab; clear hab
    go_wp2
    go_ret
    exact ⟨ret_bool Hab.out.symm, hx⟩
 ·
  have t1 : ((a.length : Int) != (b.length : Int)) = true := by simp [bne_iff_ne]; omega
  have hab : decide (a = b) = false := by
   rw [decide_eq_false_iff_not]; rintro rfl; exact hne rfl
  have Hab := Lib.hid hab; clear hab
  clear hne
  go_enter Try.func102, Try.ntmps102
  go_wp2
  go_ret
  exact ⟨ret_bool Hab.out.symm, Ext.refl _⟩
theorem RdS.sufO {α : Type} {r : Rep α} {w : World} {o : Option Addr} {m cap : Nat} {l : List α} (h : RdS r w (.slice o m cap) l) (k : Nat) (hk : k ≤ l.length) : RdS r w (.slice (o.map (fun x => x.add (k * r.cells))) (l.length - k) (cap - k)) (l.drop k) := by
 obtain ⟨o', cap', hv, c1, c2, hn, hel⟩ := h
 cases hv
 have hlen : (l.drop k).length = l.length - k := by simp
 refine ⟨_, _, by rw [hlen], by rw [hlen]; omega, by omega, (fun e => by cases o with | none => have := hn rfl; omega | some ad => cases e), fun i hi => ?_⟩
 rw [hlen] at hi
 obtain ⟨b, off, cs, rfl, hc, hr⟩ := hel (k + i) (by omega)
 refine ⟨b, off + k * r.cells, cs, by simp [Addr.add], fun j u hj => ?_, by simpa using hr⟩
 have := hc j u hj
 rw [Nat.add_mul, ← Nat.add_assoc] at this
 exact this
set_option maxRecDepth 100000 in
set_option maxHeartbeats 2000000 in
theorem s_l9Copy (s : Seg) (v : Value) (w : World) (r : RdS Hop.rep w v s.hops) (hl : s.hops.length ≤ 1048576) :
  Calls Try.prog 100 #[.agg #[.int .i64 s.ts, .int .i64 s.beta, v]] w fun e w' => ∃ v', e = .returned (.agg #[.int .i64 s.ts, .int .i64 s.beta, v']) ∧ OwnF Hop.f 5 w.heap.size 146 w' v' s.hops ∧ Ext w w' := by
 obtain ⟨E⟩ := elemHop
 obtain ⟨o, cap, rfl, hsm⟩ := r.shape
 have hx0 := ext2 w (.cells #[.int .i64 s.ts, .int .i64 s.beta, .slice o s.hops.length cap] 60) (.cells #[.int .i64 0, .int .i64 0, .slice none 0 0] 60)
 have HB0 := Lib.hid (al2 w (.cells #[.int .i64 s.ts, .int .i64 s.beta, .slice o s.hops.length cap] 60) (.cells #[.int .i64 0, .int .i64 0, .slice none 0 0] 60))
 go_enter Try.func100, Try.ntmps100
 obtain ⟨W0, hW0⟩ : ∃ W0 : World, W0 = ((w.alloc (.cells #[.int .i64 s.ts, .int .i64 s.beta, .slice o s.hops.length cap] 60)).alloc (.cells #[.int .i64 0, .int .i64 0, .slice none 0 0] 60)) := ⟨_, rfl⟩
 rw [← hW0] at hx0 HB0
 have hsz : W0.heap.size = w.heap.size + 1 + 1 := by rw [hW0]; simp
 have cf1 := blk3 HB0.out.1
 have cf2 := blk3 HB0.out.2
 go_wp2_with fail
 rw [← hW0]
 clear hW0
 have HSZ := Lib.hid hsz
 clear hsz
 go_wp2_with fail
 refine wp_region_set (fun k => k = w.heap.size + 1 ∨ W0.heap.size ≤ k) [([0, 1, 2, 3, 5, 6], 4), ([], 7), ([8], 9)] [] (by kernel_rfl) (by kernel_rfl) (by kernel_rfl) ?_
 have q0 := ChgSW.cell (S := fun k => k = w.heap.size + 1 ∨ W0.heap.size ≤ k) (cf1.1) (by have h1 := HSZ.out; simp only; omega)
 have q1 := ChgSW.cell (S := fun k => k = w.heap.size + 1 ∨ W0.heap.size ≤ k) (cf1.2.1) (by have h1 := HSZ.out; simp only; omega)
 have q2 := ChgSW.cell (S := fun k => k = w.heap.size + 1 ∨ W0.heap.size ≤ k) (cf1.2.2) (by have h1 := HSZ.out; simp only; omega)
 try clear cf1
 try clear cf2
 simp only [wpBlocks, pickOps, List.filterMap_cons, List.filterMap_nil, List.getElem?_toArray, List.getElem?_cons_zero, List.getElem?_cons_succ]
 repeat (first | go_big_quiet_step (fail) | quiet_step (fail))
 refine wpQuiet_nil ?_
 go_wp2_with fail
 have hxd : Ext W0 (W0.drew.alloc (.cells #[] 146)) := (Ext.refl W0).drew.alloc _
 refine ⟨⟨⟨_, Chg.ofExt hxd⟩, rfl⟩, ?_⟩
 repeat (first | go_big_quiet_step (fail) | quiet_step (fail))
 refine wpQuiet_nil ?_
 refine appE (g := W0.heap.size) E Hop.flen Hop.one rfl _ _ rfl s.hops rfl (OwnF.empty Hop.f 5 W0.heap.size 146 W0.drew (by simp)) rfl (r.ext (hx0.trans hxd)) (by omega) (by unfold maxLen; omega) (by simp) ?_
 intro v2 w2 oq hz2
 have hxq := hxd.trans hz2
 have HX3 := Lib.hid hxq
 have HRB := Lib.hid (Ext.block hxq HB0.out.2)
 have HO3 := Lib.hid (oq.mono (base' := w.heap.size) (by have h1 := HSZ.out; omega))
 obtain ⟨o', c', rfl, _⟩ := (OwnF.rd (hf := Hop.flen) oq).shape
 clear oq
 go_wp2_with fail
 refine ⟨⟨⟨_, Chg.ofExt hxq⟩, rfl⟩, ?_⟩
 repeat (first | go_big_quiet_step (fail) | quiet_step (fail))
 refine wpQuiet_nil ?_
 have HR2 := Lib.hid (blk_set3 HRB.out (.int .i64 s.ts) (.int .i64 s.beta) (.slice o' s.hops.length c'))
 have ff0 := fr_of HRB.out 0
 have ff1 := fr_of HRB.out 1
 have ff2 := fr_of HRB.out 2
 have cR := blk3 HRB.out
 go_wp2_with fail
 clear cR ff0 ff1 ff2
 refine ⟨⟨⟨_, ?_⟩, rfl⟩, ?_⟩
 ·
  exact Chg.setC (p := ⟨w.heap.size + 1, 2, none⟩) (Chg.setC (p := ⟨w.heap.size + 1, 1, none⟩) (Chg.setC (p := ⟨w.heap.size + 1, 0, none⟩) (Chg.ofExt HX3.out) (.inl rfl) _) (.inl rfl) _) (.inl rfl) _
 repeat (first | go_big_quiet_step (fail) | quiet_step (fail))
 refine wpQuiet_nil ?_
 refine NoPanic.normal ?_
 clear q0 q1 q2
 go_wp2_with fail
 have cc := blk3 HR2.out
 refine bodyPost_ret (v := .agg #[.int .i64 s.ts, .int .i64 s.beta, .slice o' s.hops.length c']) (by simp [results, Try.results100, go_sem, cc]) rfl ?_
 exact ⟨_, rfl, HO3.out.chg (S := fun k => k = w.heap.size + 1) (Chg.setC (S := fun k => k = w.heap.size + 1) (p := ⟨w.heap.size + 1, 2, none⟩) (Chg.setC (S := fun k => k = w.heap.size + 1) (p := ⟨w.heap.size + 1, 1, none⟩) (Chg.setC (S := fun k => k = w.heap.size + 1) (p := ⟨w.heap.size + 1, 0, none⟩) (Chg.refl _ _) rfl _) rfl _) rfl _) (fun k hk e => HO3.out.ne HRB.out (by decide) (by rw [hk, e])), ext_set3 (hx0.trans HX3.out) (by omega) _ _ _⟩
end
section
open Go.ChangeShapes Go.WideShapes Go.ChangeAt Go.RowKit Go.Deep
def isTerm (s : Seg) : Bool := decide (0 < s.hops.length) && ((hopAt s.hops (s.hops.length - 1)).eg == 0)
end
section
open Go.ChangeShapes Go.WideShapes Go.ChangeAt Go.RowKit Go.Deep
/-- The ith hop ends the segment or goes on, and follows the one before it. -/
def wfJoin (t : Topo) (l : List Hop) (i : Nat) : Bool := !(((hopAt l i).eg == 0) && decide (i + 1 < l.length)) && (decide (i = 0) || (((remEnd t (hopAt l (i - 1)).asn (hopAt l (i - 1)).eg).1 == (hopAt l i).asn) && ((remEnd t (hopAt l (i - 1)).asn (hopAt l (i - 1)).eg).2 == (hopAt l i).ing)))
def wfSeg (t : Topo) (s : Seg) : Bool := hopsOk t s.hops && ((hopAt s.hops 0).ing == 0) && allTo (wfJoin t s.hops) s.hops.length
theorem wf_len' {t : Topo} {l : List Hop} (h : hopsOk t l = true) : 1 ≤ l.length ∧ l.length ≤ 8 := by
 unfold hopsOk at h
 simp only [Bool.and_eq_true] at h
 have := inR_true.1 h.1
 omega
theorem wf_no1 {t : Topo} {s : Seg} (h : hopsOk t s.hops = false) : wfSeg t s = false := by unfold wfSeg; rw [h]; rfl
theorem wf_no2 {t : Topo} {s : Seg} (h0 : 0 < s.hops.length) (h : (s.hops[0].ing == 0) = false) : wfSeg t s = false := by unfold wfSeg; rw [hopAt_at h0, h]; simp
theorem wf_no3 {t : Topo} {s : Seg} {k : Nat} (hk : k < s.hops.length) (h : wfJoin t s.hops k = false) : wfSeg t s = false := by unfold wfSeg; rw [allTo_no hk h]; simp
theorem wf_yes {t : Topo} {s : Seg} (h1 : hopsOk t s.hops = true) (h0 : 0 < s.hops.length) (h2 : (s.hops[0].ing == 0) = true) (h3 : allTo (wfJoin t s.hops) s.hops.length = true) : wfSeg t s = true := by unfold wfSeg; rw [h1, hopAt_at h0, h2, h3]; rfl
theorem join_no1 {t : Topo} {l : List Hop} {k : Nat} (hk : k < l.length) (h1 : (l[k].eg == 0) = true) (h2 : k + 1 < l.length) : wfJoin t l k = false := by unfold wfJoin; rw [hopAt_at hk, h1, decide_eq_true h2]; rfl
theorem join_zero {t : Topo} {l : List Hop} (hk : 0 < l.length) (h : (l[0].eg == 0) = false ∨ ¬ 0 + 1 < l.length) : wfJoin t l 0 = true := by
 unfold wfJoin
 rw [hopAt_at hk]
 rcases h with h | h
 ·
  rw [h]; rfl
 ·
  rw [decide_eq_false h]; simp
theorem join_at {t : Topo} {l : List Hop} {k : Nat} (hk : k + 1 < l.length) (h : (l[k + 1].eg == 0) = false ∨ ¬ k + 1 + 1 < l.length) :
  wfJoin t l (k + 1) = (((remEnd t l[k].asn l[k].eg).1 == l[k + 1].asn) && ((remEnd t l[k].asn l[k].eg).2 == l[k + 1].ing)) := by
 unfold wfJoin
 rw [hopAt_at hk, Nat.add_sub_cancel, hopAt_at (show k < l.length by omega)]
 rcases h with h | h
 ·
  rw [h]; simp
 ·
  rw [decide_eq_false h]; simp
theorem ok_no1 {t : Topo} {l : List Hop} (h : inR (l.length : Int) 1 8 = false) : hopsOk t l = false := by unfold hopsOk; rw [h]; rfl
theorem ok_no2 {t : Topo} {l : List Hop} {k : Nat} (hk : k < l.length) (h : hopFresh t l k = false) : hopsOk t l = false := by unfold hopsOk; rw [allTo_no hk h]; simp
theorem ok_yes {t : Topo} {l : List Hop} (h : inR (l.length : Int) 1 8 = true) (h2 : allTo (hopFresh t l) l.length = true) : hopsOk t l = true := by unfold hopsOk; rw [h, h2]; rfl
theorem fresh_at {t : Topo} {l : List Hop} {k : Nat} (hk : k < l.length) : hopFresh t l k = (validHop l[k] && isAs t l[k].asn && !(hasI ((l.map (·.asn)).take k) l[k].asn)) := by unfold hopFresh; rw [hopAt_at hk]
set_option maxRecDepth 100000 in
set_option maxHeartbeats 8000000 in
theorem s_WellFormed (t : Topo) (v1 v2 : Value) (s : Seg) (v : Value)  (w : World) (ha : RdS ASd.rep w v1 t.ases) (hk : RdS Lnk.rep w v2 t.links) (r : RdS Hop.rep w v s.hops) (hl : s.hops.length ≤ 1048576) :
  Calls Try.prog 214 #[.agg #[v1, v2], .agg #[.int .i64 s.ts, .int .i64 s.beta, v]] w fun e w' => e = .returned (.bool (wfSeg t s)) ∧ Ext w w' := by
 obtain ⟨o, cap, rfl, hsm⟩ := r.shape
 have hx0 := ext2 w (.cells #[v1, v2] 41) (.cells #[.int .i64 s.ts, .int .i64 s.beta, .slice o s.hops.length cap] 60)
 have HB0 := Lib.hid (al2 w (.cells #[v1, v2] 41) (.cells #[.int .i64 s.ts, .int .i64 s.beta, .slice o s.hops.length cap] 60))
 go_enter Try.func214, Try.ntmps214
 obtain ⟨W0, hW0⟩ : ∃ W0 : World, W0 = ((w.alloc (.cells #[v1, v2] 41)).alloc (.cells #[.int .i64 s.ts, .int .i64 s.beta, .slice o s.hops.length cap] 60)) := ⟨_, rfl⟩
 rw [← hW0] at hx0 HB0
 have cf1 := blk2 HB0.out.1
 have cf2 := blk3 HB0.out.2
 go_wp2_with fail
 rw [← hW0]
 clear hW0
 refine (s_l1In _ _ _ _).mono ?_
 rintro e _ ⟨rfl, rfl⟩
 cases bb : inR (s.hops.length : Int) 1 8
 ·
  have HE := Lib.hid (wf_no1 (s := s) (ok_no1 (t := t) bb))
  go_wp2_with fail
  go_ret
  exact ⟨ret_bool HE.out.symm, hx0⟩
 ·
  have B1 := Lib.hid bb
  obtain ⟨hl1, hl8⟩ := inR_true.1 bb
  clear bb
  have h0 : 0 < s.hops.length := by omega
  obtain ⟨b, off, rfl, hc0⟩ := Hop.at (r.ext hx0) 0 h0
  have h00 : (0 : Int) < (s.hops.length : Int) := by omega
  cases b2 : (s.hops[0].ing == 0)
  ·
   have b2' : (s.hops[0].ing != 0) = true := by simp only [bne, b2]; rfl
   have HE := Lib.hid (wf_no2 (t := t) h0 b2)
   go_wp2_with fail
   go_ret
   exact ⟨ret_bool HE.out.symm, hx0⟩
  ·
   have b2' : (s.hops[0].ing != 0) = false := by simp only [bne, b2]; rfl
   have B2 := Lib.hid b2
   clear b2
   go_wp2_with fail
   refine (s_SegmentASes s _ _ (r.ext hx0) hl).mono ?_
   rintro e w1 ⟨vl, rfl, ol, hz1⟩
   obtain ⟨li, hli⟩ : ∃ li, li = s.hops.map (·.asn) := ⟨_, rfl⟩
   rw [← hli] at ol
   have hll : li.length = s.hops.length := by rw [hli]; simp
   have HLI := Lib.hid hli
   clear hli
   obtain ⟨oa, ca, rfl, _⟩ := (ints_rep ol).shape
   have hca := (ints_rep ol).capLe
   have rl := ints_rep ol
   clear ol
   have HLL := Lib.hid hll
   clear hll
   try clear cf1
   try clear cf2
   have cf3 := blk2 (Ext.block hz1 HB0.out.1)
   have cf4 := blk3 (Ext.block hz1 HB0.out.2)
   have cf5 := Hop.at_ext hz1 hc0
   go_wp2_with fail
   clear b2' hc0
   go_loopg [6] s.hops.length (fun gk i wr => ∃ k : Nat, gk + k = s.hops.length ∧ i = .int .i64 k ∧ Hid (allTo (hopFresh t s.hops) k = true) ∧ Hid (allTo (wfJoin t s.hops) k = true) ∧ Ext w1 wr)
   case atStart => exact ⟨0, by omega, rfl, Lib.hid rfl, Lib.hid rfl, Ext.refl _⟩
   case round =>
    obtain ⟨k, hgk, rfl, HF, HK, hx⟩ := hrel
    have HGK := Lib.hid hgk
    clear hgk
    have hkl : k ≤ s.hops.length := by have h1 := HGK.out; omega
    by_cases hlt : k < s.hops.length
    ·
     obtain ⟨b', off', hbo, hc⟩ := Hop.at (r.ext ((hx0.trans hz1).trans hx)) k hlt
     cases hbo
     have h4 : (k : Int) < (s.hops.length : Int) := by omega
     have hkli : k ≤ li.length := by rw [HLL.out]; omega
     have hkca : k ≤ ca := Nat.le_trans hkli hca
     try clear cf3
     try clear cf4
     try clear cf5
     have cf6 := blk2 (Ext.block (hz1.trans hx) HB0.out.1)
     have cf7 := blk3 (Ext.block (hz1.trans hx) HB0.out.2)
     go_upto_region 8 with (fail)
     try clear cf6
     try clear cf7
     clear hc
     have hx1 : Ext wr (wr.alloc (.cells #[.int .i64 s.hops[k].asn, .int .i64 s.hops[k].ing, .int .i64 s.hops[k].eg, .int .i64 s.hops[k].exp, .int .i64 s.hops[k].mac] 146)) := (Ext.refl _).alloc _
     have HB1 := Lib.hid (blk_new wr (.cells #[.int .i64 s.hops[k].asn, .int .i64 s.hops[k].ing, .int .i64 s.hops[k].eg, .int .i64 s.hops[k].exp, .int .i64 s.hops[k].mac] 146))
     obtain ⟨wa, hwa⟩ : ∃ wa : World, wa = wr.alloc (.cells #[.int .i64 s.hops[k].asn, .int .i64 s.hops[k].ing, .int .i64 s.hops[k].eg, .int .i64 s.hops[k].exp, .int .i64 s.hops[k].mac] 146) := ⟨_, rfl⟩
     rw [← hwa]
     rw [← hwa] at hx1 HB1
     clear hwa
     have HFA := Lib.hid (fresh_at (t := t) hlt)
     rw [← HLI.out] at HFA
     cases d1 : validHop s.hops[k]
     ·
      have cf8 := blk2 (Ext.block ((hz1.trans hx).trans hx1) HB0.out.1)
      have cf9 := blk3 (Ext.block ((hz1.trans hx).trans hx1) HB0.out.2)
      have cf10 := blk5 HB1.out
      go_wp2_with fail
      refine wp_region_ext (by kernel_rfl) (by kernel_rfl) ?_
      have q0 := ExtW.cell (cf8.1)
      have q1 := ExtW.cell (cf8.2)
      have q2 := ExtW.cell (cf9.1)
      have q3 := ExtW.cell (cf9.2.1)
      have q4 := ExtW.cell (cf9.2.2)
      have q5 := ExtW.cell (cf10.1)
      have q6 := ExtW.cell (cf10.2.1)
      have q7 := ExtW.cell (cf10.2.2.1)
      have q8 := ExtW.cell (cf10.2.2.2.1)
      have q9 := ExtW.cell (cf10.2.2.2.2)
      repeat (first | go_big_quiet_step (((first | (go_at_call 132; exact Calls.ext_of (s_ValidHop s.hops[k] _))))) | quiet_step (((first | (go_at_call 132; exact Calls.ext_of (s_ValidHop s.hops[k] _))))))
      refine wpQuiet_nil ?_
      intro w2 hw2
      have hz2 := ExtW.out hw2
      clear hw2 q0 q1 q2 q3 q4 q5 q6 q7 q8 q9
      have HE := Lib.hid (wf_no1 (s := s) (ok_no2 (t := t) hlt (by rw [HFA.out]; simp [d1])))
      try clear cf8
      try clear cf9
      try clear cf10
      have cf11 := blk2 (Ext.block (((hz1.trans hx).trans hx1).trans hz2) HB0.out.1)
      have cf12 := blk3 (Ext.block (((hz1.trans hx).trans hx1).trans hz2) HB0.out.2)
      have cf13 := blk5 (Ext.block hz2 HB1.out)
      go_wp2_with fail
      go_ret
      exact ⟨ret_bool HE.out.symm, ((((hx0.trans hz1).trans hx).trans hx1).trans hz2)⟩
     ·
      cases d2 : isAs t s.hops[k].asn
      ·
       have cf14 := blk2 (Ext.block ((hz1.trans hx).trans hx1) HB0.out.1)
       have cf15 := blk3 (Ext.block ((hz1.trans hx).trans hx1) HB0.out.2)
       have cf16 := blk5 HB1.out
       go_wp2_with fail
       refine wp_region_ext (by kernel_rfl) (by kernel_rfl) ?_
       have q0 := ExtW.cell (cf14.1)
       have q1 := ExtW.cell (cf14.2)
       have q2 := ExtW.cell (cf15.1)
       have q3 := ExtW.cell (cf15.2.1)
       have q4 := ExtW.cell (cf15.2.2)
       have q5 := ExtW.cell (cf16.1)
       have q6 := ExtW.cell (cf16.2.1)
       have q7 := ExtW.cell (cf16.2.2.1)
       have q8 := ExtW.cell (cf16.2.2.2.1)
       have q9 := ExtW.cell (cf16.2.2.2.2)
       repeat (first | go_big_quiet_step (((first | (go_at_call 132; exact Calls.ext_of (s_ValidHop s.hops[k] _)) | (go_at_call 133; exact Calls.ext_of (s_l5Realm t _ _ s.hops[k].asn _ ((ha.ext (((hx0.trans hz1).trans hx).trans hx1)).ext (ExtW.h _))))))) | quiet_step (((first | (go_at_call 132; exact Calls.ext_of (s_ValidHop s.hops[k] _)) | (go_at_call 133; exact Calls.ext_of (s_l5Realm t _ _ s.hops[k].asn _ ((ha.ext (((hx0.trans hz1).trans hx).trans hx1)).ext (ExtW.h _))))))))
       refine wpQuiet_nil ?_
       intro w3 hw3
       have hz3 := ExtW.out hw3
       clear hw3 q0 q1 q2 q3 q4 q5 q6 q7 q8 q9
       have HE := Lib.hid (wf_no1 (s := s) (ok_no2 (t := t) hlt (by rw [HFA.out]; simp [d1, d2])))
       try clear cf14
       try clear cf15
       try clear cf16
       have cf17 := blk2 (Ext.block (((hz1.trans hx).trans hx1).trans hz3) HB0.out.1)
       have cf18 := blk3 (Ext.block (((hz1.trans hx).trans hx1).trans hz3) HB0.out.2)
       have cf19 := blk5 (Ext.block hz3 HB1.out)
       go_wp2_with fail
       go_ret
       exact ⟨ret_bool HE.out.symm, ((((hx0.trans hz1).trans hx).trans hx1).trans hz3)⟩
      ·
       cases d3 : hasI (li.take k) s.hops[k].asn
       ·
        have HF2 := Lib.hid (allTo_snoc HF.out (show hopFresh t s.hops k = true by rw [HFA.out, d1, d2, d3]; rfl))
        cases b5 : (s.hops[k].eg == 0)
        ·
         have cf20 := blk2 (Ext.block ((hz1.trans hx).trans hx1) HB0.out.1)
         have cf21 := blk3 (Ext.block ((hz1.trans hx).trans hx1) HB0.out.2)
         have cf22 := blk5 HB1.out
         go_wp2_with fail
         refine wp_region_ext (by kernel_rfl) (by kernel_rfl) ?_
         have q0 := ExtW.cell (cf20.1)
         have q1 := ExtW.cell (cf20.2)
         have q2 := ExtW.cell (cf21.1)
         have q3 := ExtW.cell (cf21.2.1)
         have q4 := ExtW.cell (cf21.2.2)
         have q5 := ExtW.cell (cf22.1)
         have q6 := ExtW.cell (cf22.2.1)
         have q7 := ExtW.cell (cf22.2.2.1)
         have q8 := ExtW.cell (cf22.2.2.2.1)
         have q9 := ExtW.cell (cf22.2.2.2.2)
         repeat (first | go_big_quiet_step (((first | (go_at_call 132; exact Calls.ext_of (s_ValidHop s.hops[k] _)) | (go_at_call 133; exact Calls.ext_of (s_l5Realm t _ _ s.hops[k].asn _ ((ha.ext (((hx0.trans hz1).trans hx).trans hx1)).ext (ExtW.h _)))) | (go_at_call 134; exact Calls.ext_same (s_l9Has (li.take k) _ s.hops[k].asn _ (RdS.pre ((rl.ext (hx.trans hx1)).ext (ExtW.h _)) k hkli)))))) | quiet_step (((first | (go_at_call 132; exact Calls.ext_of (s_ValidHop s.hops[k] _)) | (go_at_call 133; exact Calls.ext_of (s_l5Realm t _ _ s.hops[k].asn _ ((ha.ext (((hx0.trans hz1).trans hx).trans hx1)).ext (ExtW.h _)))) | (go_at_call 134; exact Calls.ext_same (s_l9Has (li.take k) _ s.hops[k].asn _ (RdS.pre ((rl.ext (hx.trans hx1)).ext (ExtW.h _)) k hkli)))))))
         refine wpQuiet_nil ?_
         intro w4 hw4
         have hz4 := ExtW.out hw4
         clear hw4 q0 q1 q2 q3 q4 q5 q6 q7 q8 q9
         have HEND : Hid ((s.hops[k].eg == 0) = false ∨ ¬ k + 1 < s.hops.length) := Lib.hid (.inl b5)
         clear d1 d2 d3
         rcases Nat.eq_zero_or_pos k with hk0 | hk0
         ·
          have hkz : ¬ (0 : Int) < (k : Int) := by omega
          have HE := Lib.hid (allTo_snoc HK.out (show wfJoin t s.hops k = true by subst hk0; exact join_zero h0 HEND.out))
          clear hk0
          try clear cf20
          try clear cf21
          try clear cf22
          have cf23 := blk2 (Ext.block (((hz1.trans hx).trans hx1).trans hz4) HB0.out.1)
          have cf24 := blk3 (Ext.block (((hz1.trans hx).trans hx1).trans hz4) HB0.out.2)
          have cf25 := blk5 (Ext.block hz4 HB1.out)
          go_wp2_with fail
          go_roundg (gk - 1)
          case measure => have h1 := HGK.out; omega
          case rel => exact ⟨k + 1, by have h1 := HGK.out; omega, congrArg (Value.int .i64) (by first | omega | (unfold wrap64; omega)), HF2, HE, ((hx.trans hx1).trans hz4)⟩
         ·
          obtain ⟨j, rfl⟩ : ∃ j, k = j + 1 := ⟨k - 1, by omega⟩
          have hkz : (0 : Int) < ((j + 1 : Nat) : Int) := by omega
          have hj1 : ((j + 1 : Nat) : Int) - 1 = (j : Int) := by omega
          have hjl : j < s.hops.length := by omega
          have hj4 : (j : Int) < (s.hops.length : Int) := by omega
          have HJ := Lib.hid (join_at (t := t) hlt HEND.out)
          obtain ⟨b2, off2, hbo, hd⟩ := Hop.at (r.ext ((((hx0.trans hz1).trans hx).trans hx1).trans hz4)) j hjl
          cases hbo
          try clear cf20
          try clear cf21
          try clear cf22
          have cf26 := blk2 (Ext.block (((hz1.trans hx).trans hx1).trans hz4) HB0.out.1)
          have cf27 := blk3 (Ext.block (((hz1.trans hx).trans hx1).trans hz4) HB0.out.2)
          have cf28 := blk5 (Ext.block hz4 HB1.out)
          go_wp2_with fail
          refine wp_region_ext (by kernel_rfl) (by kernel_rfl) ?_
          have q0 := ExtW.cell (cf26.1)
          have q1 := ExtW.cell (cf26.2)
          have q2 := ExtW.cell (cf27.1)
          have q3 := ExtW.cell (cf27.2.1)
          have q4 := ExtW.cell (cf27.2.2)
          have q5 := ExtW.cell (cf28.1)
          have q6 := ExtW.cell (cf28.2.1)
          have q7 := ExtW.cell (cf28.2.2.1)
          have q8 := ExtW.cell (cf28.2.2.2.1)
          have q9 := ExtW.cell (cf28.2.2.2.2)
          have q10 := ExtW.cell (hd.1)
          have q11 := ExtW.cell (hd.2.1)
          have q12 := ExtW.cell (hd.2.2.1)
          have q13 := ExtW.cell (hd.2.2.2.1)
          have q14 := ExtW.cell (hd.2.2.2.2)
          repeat (first | go_big_quiet_step (((first | (go_at_call 135; exact Calls.ext_of (s_RemoteEnd t _ _ s.hops[j].asn s.hops[j].eg _ ((hk.ext ((((hx0.trans hz1).trans hx).trans hx1).trans hz4)).ext (ExtW.h _))))))) | quiet_step (((first | (go_at_call 135; exact Calls.ext_of (s_RemoteEnd t _ _ s.hops[j].asn s.hops[j].eg _ ((hk.ext ((((hx0.trans hz1).trans hx).trans hx1).trans hz4)).ext (ExtW.h _))))))))
          refine wpQuiet_nil ?_
          intro w5 hw5
          have hz5 := ExtW.out hw5
          clear hw5 q0 q1 q2 q3 q4 q5 q6 q7 q8 q9 q10 q11 q12 q13 q14
          generalize hR : remEnd t s.hops[j].asn s.hops[j].eg = R at *
          have HR := Lib.hid hR
          clear hR
          cases c1 : (R.1 == s.hops[j + 1].asn)
          ·
           have c1' : (R.1 != s.hops[j + 1].asn) = true := by simp only [bne, c1]; rfl
           have HE := Lib.hid (wf_no3 (t := t) hlt (show wfJoin t s.hops (j + 1) = false by rw [HJ.out]; simp [c1]))
           try clear cf26
           try clear cf27
           try clear cf28
           have cf29 := blk2 (Ext.block ((((hz1.trans hx).trans hx1).trans hz4).trans hz5) HB0.out.1)
           have cf30 := blk3 (Ext.block ((((hz1.trans hx).trans hx1).trans hz4).trans hz5) HB0.out.2)
           have cf31 := blk5 (Ext.block (hz4.trans hz5) HB1.out)
           have cf32 := Hop.at_ext hz5 hd
           go_wp2_with fail
           go_ret
           exact ⟨ret_bool HE.out.symm, (((((hx0.trans hz1).trans hx).trans hx1).trans hz4).trans hz5)⟩
          ·
           have c1' : (R.1 != s.hops[j + 1].asn) = false := by simp only [bne, c1]; rfl
           cases c2 : (R.2 == s.hops[j + 1].ing)
           ·
            have c2' : (R.2 != s.hops[j + 1].ing) = true := by simp only [bne, c2]; rfl
            have HE := Lib.hid (wf_no3 (t := t) hlt (show wfJoin t s.hops (j + 1) = false by rw [HJ.out]; simp [c2]))
            try clear cf26
            try clear cf27
            try clear cf28
            have cf33 := blk2 (Ext.block ((((hz1.trans hx).trans hx1).trans hz4).trans hz5) HB0.out.1)
            have cf34 := blk3 (Ext.block ((((hz1.trans hx).trans hx1).trans hz4).trans hz5) HB0.out.2)
            have cf35 := blk5 (Ext.block (hz4.trans hz5) HB1.out)
            have cf36 := Hop.at_ext hz5 hd
            go_wp2_with fail
            go_ret
            exact ⟨ret_bool HE.out.symm, (((((hx0.trans hz1).trans hx).trans hx1).trans hz4).trans hz5)⟩
           ·
            have c2' : (R.2 != s.hops[j + 1].ing) = false := by simp only [bne, c2]; rfl
            have HE := Lib.hid (allTo_snoc HK.out (show wfJoin t s.hops (j + 1) = true by rw [HJ.out, c1, c2]; rfl))
            try clear cf26
            try clear cf27
            try clear cf28
            have cf37 := blk2 (Ext.block ((((hz1.trans hx).trans hx1).trans hz4).trans hz5) HB0.out.1)
            have cf38 := blk3 (Ext.block ((((hz1.trans hx).trans hx1).trans hz4).trans hz5) HB0.out.2)
            have cf39 := blk5 (Ext.block (hz4.trans hz5) HB1.out)
            have cf40 := Hop.at_ext hz5 hd
            go_wp2_with fail
            go_roundg (gk - 1)
            case measure => have h1 := HGK.out; omega
            case rel => exact ⟨j + 1 + 1, by have h1 := HGK.out; omega, congrArg (Value.int .i64) (by first | omega | (unfold wrap64; omega)), HF2, HE, (((hx.trans hx1).trans hz4).trans hz5)⟩
        ·
         have hend : k + 1 < s.hops.length ∨ ¬ k + 1 < s.hops.length := by omega
         rcases hend with hend | hend
         ·
          have h6 : decide ((k : Int) < (s.hops.length : Int) - 1) = true := by simp; omega
          have h6' : (k : Int) < (s.hops.length : Int) - 1 := by omega
          have HE := Lib.hid (wf_no3 (t := t) hlt (join_no1 hlt b5 hend))
          clear hend
          have cf41 := blk2 (Ext.block ((hz1.trans hx).trans hx1) HB0.out.1)
          have cf42 := blk3 (Ext.block ((hz1.trans hx).trans hx1) HB0.out.2)
          have cf43 := blk5 HB1.out
          go_wp2_with fail
          refine wp_region_ext (by kernel_rfl) (by kernel_rfl) ?_
          have q0 := ExtW.cell (cf41.1)
          have q1 := ExtW.cell (cf41.2)
          have q2 := ExtW.cell (cf42.1)
          have q3 := ExtW.cell (cf42.2.1)
          have q4 := ExtW.cell (cf42.2.2)
          have q5 := ExtW.cell (cf43.1)
          have q6 := ExtW.cell (cf43.2.1)
          have q7 := ExtW.cell (cf43.2.2.1)
          have q8 := ExtW.cell (cf43.2.2.2.1)
          have q9 := ExtW.cell (cf43.2.2.2.2)
          repeat (first | go_big_quiet_step (((first | (go_at_call 132; exact Calls.ext_of (s_ValidHop s.hops[k] _)) | (go_at_call 133; exact Calls.ext_of (s_l5Realm t _ _ s.hops[k].asn _ ((ha.ext (((hx0.trans hz1).trans hx).trans hx1)).ext (ExtW.h _)))) | (go_at_call 134; exact Calls.ext_same (s_l9Has (li.take k) _ s.hops[k].asn _ (RdS.pre ((rl.ext (hx.trans hx1)).ext (ExtW.h _)) k hkli)))))) | quiet_step (((first | (go_at_call 132; exact Calls.ext_of (s_ValidHop s.hops[k] _)) | (go_at_call 133; exact Calls.ext_of (s_l5Realm t _ _ s.hops[k].asn _ ((ha.ext (((hx0.trans hz1).trans hx).trans hx1)).ext (ExtW.h _)))) | (go_at_call 134; exact Calls.ext_same (s_l9Has (li.take k) _ s.hops[k].asn _ (RdS.pre ((rl.ext (hx.trans hx1)).ext (ExtW.h _)) k hkli)))))))
          refine wpQuiet_nil ?_
          intro w6 hw6
          have hz6 := ExtW.out hw6
          clear hw6 q0 q1 q2 q3 q4 q5 q6 q7 q8 q9
          try clear cf41
          try clear cf42
          try clear cf43
          have cf44 := blk2 (Ext.block (((hz1.trans hx).trans hx1).trans hz6) HB0.out.1)
          have cf45 := blk3 (Ext.block (((hz1.trans hx).trans hx1).trans hz6) HB0.out.2)
          have cf46 := blk5 (Ext.block hz6 HB1.out)
          go_wp2_with fail
          go_ret
          exact ⟨ret_bool HE.out.symm, ((((hx0.trans hz1).trans hx).trans hx1).trans hz6)⟩
         ·
          have h6 : decide ((k : Int) < (s.hops.length : Int) - 1) = false := by simp; omega
          have h6' : ¬ (k : Int) < (s.hops.length : Int) - 1 := by omega
          have HEND : Hid ((s.hops[k].eg == 0) = false ∨ ¬ k + 1 < s.hops.length) := Lib.hid (.inr hend)
          clear hend
          have cf47 := blk2 (Ext.block ((hz1.trans hx).trans hx1) HB0.out.1)
          have cf48 := blk3 (Ext.block ((hz1.trans hx).trans hx1) HB0.out.2)
          have cf49 := blk5 HB1.out
          go_wp2_with fail
          refine wp_region_ext (by kernel_rfl) (by kernel_rfl) ?_
          have q0 := ExtW.cell (cf47.1)
          have q1 := ExtW.cell (cf47.2)
          have q2 := ExtW.cell (cf48.1)
          have q3 := ExtW.cell (cf48.2.1)
          have q4 := ExtW.cell (cf48.2.2)
          have q5 := ExtW.cell (cf49.1)
          have q6 := ExtW.cell (cf49.2.1)
          have q7 := ExtW.cell (cf49.2.2.1)
          have q8 := ExtW.cell (cf49.2.2.2.1)
          have q9 := ExtW.cell (cf49.2.2.2.2)
          repeat (first | go_big_quiet_step (((first | (go_at_call 132; exact Calls.ext_of (s_ValidHop s.hops[k] _)) | (go_at_call 133; exact Calls.ext_of (s_l5Realm t _ _ s.hops[k].asn _ ((ha.ext (((hx0.trans hz1).trans hx).trans hx1)).ext (ExtW.h _)))) | (go_at_call 134; exact Calls.ext_same (s_l9Has (li.take k) _ s.hops[k].asn _ (RdS.pre ((rl.ext (hx.trans hx1)).ext (ExtW.h _)) k hkli)))))) | quiet_step (((first | (go_at_call 132; exact Calls.ext_of (s_ValidHop s.hops[k] _)) | (go_at_call 133; exact Calls.ext_of (s_l5Realm t _ _ s.hops[k].asn _ ((ha.ext (((hx0.trans hz1).trans hx).trans hx1)).ext (ExtW.h _)))) | (go_at_call 134; exact Calls.ext_same (s_l9Has (li.take k) _ s.hops[k].asn _ (RdS.pre ((rl.ext (hx.trans hx1)).ext (ExtW.h _)) k hkli)))))))
          refine wpQuiet_nil ?_
          intro w7 hw7
          have hz7 := ExtW.out hw7
          clear hw7 q0 q1 q2 q3 q4 q5 q6 q7 q8 q9
          clear d1 d2 d3
          rcases Nat.eq_zero_or_pos k with hk0 | hk0
          ·
           have hkz : ¬ (0 : Int) < (k : Int) := by omega
           have HE := Lib.hid (allTo_snoc HK.out (show wfJoin t s.hops k = true by subst hk0; exact join_zero h0 HEND.out))
           clear hk0
           try clear cf47
           try clear cf48
           try clear cf49
           have cf50 := blk2 (Ext.block (((hz1.trans hx).trans hx1).trans hz7) HB0.out.1)
           have cf51 := blk3 (Ext.block (((hz1.trans hx).trans hx1).trans hz7) HB0.out.2)
           have cf52 := blk5 (Ext.block hz7 HB1.out)
           go_wp2_with fail
           go_roundg (gk - 1)
           case measure => have h1 := HGK.out; omega
           case rel => exact ⟨k + 1, by have h1 := HGK.out; omega, congrArg (Value.int .i64) (by first | omega | (unfold wrap64; omega)), HF2, HE, ((hx.trans hx1).trans hz7)⟩
          ·
           obtain ⟨j, rfl⟩ : ∃ j, k = j + 1 := ⟨k - 1, by omega⟩
           have hkz : (0 : Int) < ((j + 1 : Nat) : Int) := by omega
           have hj1 : ((j + 1 : Nat) : Int) - 1 = (j : Int) := by omega
           have hjl : j < s.hops.length := by omega
           have hj4 : (j : Int) < (s.hops.length : Int) := by omega
           have HJ := Lib.hid (join_at (t := t) hlt HEND.out)
           obtain ⟨b2, off2, hbo, hd⟩ := Hop.at (r.ext ((((hx0.trans hz1).trans hx).trans hx1).trans hz7)) j hjl
           cases hbo
           try clear cf47
           try clear cf48
           try clear cf49
           have cf53 := blk2 (Ext.block (((hz1.trans hx).trans hx1).trans hz7) HB0.out.1)
           have cf54 := blk3 (Ext.block (((hz1.trans hx).trans hx1).trans hz7) HB0.out.2)
           have cf55 := blk5 (Ext.block hz7 HB1.out)
           go_wp2_with fail
           refine wp_region_ext (by kernel_rfl) (by kernel_rfl) ?_
           have q0 := ExtW.cell (cf53.1)
           have q1 := ExtW.cell (cf53.2)
           have q2 := ExtW.cell (cf54.1)
           have q3 := ExtW.cell (cf54.2.1)
           have q4 := ExtW.cell (cf54.2.2)
           have q5 := ExtW.cell (cf55.1)
           have q6 := ExtW.cell (cf55.2.1)
           have q7 := ExtW.cell (cf55.2.2.1)
           have q8 := ExtW.cell (cf55.2.2.2.1)
           have q9 := ExtW.cell (cf55.2.2.2.2)
           have q10 := ExtW.cell (hd.1)
           have q11 := ExtW.cell (hd.2.1)
           have q12 := ExtW.cell (hd.2.2.1)
           have q13 := ExtW.cell (hd.2.2.2.1)
           have q14 := ExtW.cell (hd.2.2.2.2)
           repeat (first | go_big_quiet_step (((first | (go_at_call 135; exact Calls.ext_of (s_RemoteEnd t _ _ s.hops[j].asn s.hops[j].eg _ ((hk.ext ((((hx0.trans hz1).trans hx).trans hx1).trans hz7)).ext (ExtW.h _))))))) | quiet_step (((first | (go_at_call 135; exact Calls.ext_of (s_RemoteEnd t _ _ s.hops[j].asn s.hops[j].eg _ ((hk.ext ((((hx0.trans hz1).trans hx).trans hx1).trans hz7)).ext (ExtW.h _))))))))
           refine wpQuiet_nil ?_
           intro w8 hw8
           have hz8 := ExtW.out hw8
           clear hw8 q0 q1 q2 q3 q4 q5 q6 q7 q8 q9 q10 q11 q12 q13 q14
           generalize hR : remEnd t s.hops[j].asn s.hops[j].eg = R at *
           have HR := Lib.hid hR
           clear hR
           cases c1 : (R.1 == s.hops[j + 1].asn)
           ·
            have c1' : (R.1 != s.hops[j + 1].asn) = true := by simp only [bne, c1]; rfl
            have HE := Lib.hid (wf_no3 (t := t) hlt (show wfJoin t s.hops (j + 1) = false by rw [HJ.out]; simp [c1]))
            try clear cf53
            try clear cf54
            try clear cf55
            have cf56 := blk2 (Ext.block ((((hz1.trans hx).trans hx1).trans hz7).trans hz8) HB0.out.1)
            have cf57 := blk3 (Ext.block ((((hz1.trans hx).trans hx1).trans hz7).trans hz8) HB0.out.2)
            have cf58 := blk5 (Ext.block (hz7.trans hz8) HB1.out)
            have cf59 := Hop.at_ext hz8 hd
            go_wp2_with fail
            go_ret
            exact ⟨ret_bool HE.out.symm, (((((hx0.trans hz1).trans hx).trans hx1).trans hz7).trans hz8)⟩
           ·
            have c1' : (R.1 != s.hops[j + 1].asn) = false := by simp only [bne, c1]; rfl
            cases c2 : (R.2 == s.hops[j + 1].ing)
            ·
             have c2' : (R.2 != s.hops[j + 1].ing) = true := by simp only [bne, c2]; rfl
             have HE := Lib.hid (wf_no3 (t := t) hlt (show wfJoin t s.hops (j + 1) = false by rw [HJ.out]; simp [c2]))
             try clear cf53
             try clear cf54
             try clear cf55
             have cf60 := blk2 (Ext.block ((((hz1.trans hx).trans hx1).trans hz7).trans hz8) HB0.out.1)
             have cf61 := blk3 (Ext.block ((((hz1.trans hx).trans hx1).trans hz7).trans hz8) HB0.out.2)
             have cf62 := blk5 (Ext.block (hz7.trans hz8) HB1.out)
             have cf63 := Hop.at_ext hz8 hd
             go_wp2_with fail
             go_ret
             exact ⟨ret_bool HE.out.symm, (((((hx0.trans hz1).trans hx).trans hx1).trans hz7).trans hz8)⟩
            ·
             have c2' : (R.2 != s.hops[j + 1].ing) = false := by simp only [bne, c2]; rfl
             have HE := Lib.hid (allTo_snoc HK.out (show wfJoin t s.hops (j + 1) = true by rw [HJ.out, c1, c2]; rfl))
             try clear cf53
             try clear cf54
             try clear cf55
             have cf64 := blk2 (Ext.block ((((hz1.trans hx).trans hx1).trans hz7).trans hz8) HB0.out.1)
             have cf65 := blk3 (Ext.block ((((hz1.trans hx).trans hx1).trans hz7).trans hz8) HB0.out.2)
             have cf66 := blk5 (Ext.block (hz7.trans hz8) HB1.out)
             have cf67 := Hop.at_ext hz8 hd
             go_wp2_with fail
             go_roundg (gk - 1)
             case measure => have h1 := HGK.out; omega
             case rel => exact ⟨j + 1 + 1, by have h1 := HGK.out; omega, congrArg (Value.int .i64) (by first | omega | (unfold wrap64; omega)), HF2, HE, (((hx.trans hx1).trans hz7).trans hz8)⟩
       ·
        have cf68 := blk2 (Ext.block ((hz1.trans hx).trans hx1) HB0.out.1)
        have cf69 := blk3 (Ext.block ((hz1.trans hx).trans hx1) HB0.out.2)
        have cf70 := blk5 HB1.out
        go_wp2_with fail
        refine wp_region_ext (by kernel_rfl) (by kernel_rfl) ?_
        have q0 := ExtW.cell (cf68.1)
        have q1 := ExtW.cell (cf68.2)
        have q2 := ExtW.cell (cf69.1)
        have q3 := ExtW.cell (cf69.2.1)
        have q4 := ExtW.cell (cf69.2.2)
        have q5 := ExtW.cell (cf70.1)
        have q6 := ExtW.cell (cf70.2.1)
        have q7 := ExtW.cell (cf70.2.2.1)
        have q8 := ExtW.cell (cf70.2.2.2.1)
        have q9 := ExtW.cell (cf70.2.2.2.2)
        repeat (first | go_big_quiet_step (((first | (go_at_call 132; exact Calls.ext_of (s_ValidHop s.hops[k] _)) | (go_at_call 133; exact Calls.ext_of (s_l5Realm t _ _ s.hops[k].asn _ ((ha.ext (((hx0.trans hz1).trans hx).trans hx1)).ext (ExtW.h _)))) | (go_at_call 134; exact Calls.ext_same (s_l9Has (li.take k) _ s.hops[k].asn _ (RdS.pre ((rl.ext (hx.trans hx1)).ext (ExtW.h _)) k hkli)))))) | quiet_step (((first | (go_at_call 132; exact Calls.ext_of (s_ValidHop s.hops[k] _)) | (go_at_call 133; exact Calls.ext_of (s_l5Realm t _ _ s.hops[k].asn _ ((ha.ext (((hx0.trans hz1).trans hx).trans hx1)).ext (ExtW.h _)))) | (go_at_call 134; exact Calls.ext_same (s_l9Has (li.take k) _ s.hops[k].asn _ (RdS.pre ((rl.ext (hx.trans hx1)).ext (ExtW.h _)) k hkli)))))))
        refine wpQuiet_nil ?_
        intro w9 hw9
        have hz9 := ExtW.out hw9
        clear hw9 q0 q1 q2 q3 q4 q5 q6 q7 q8 q9
        have HE := Lib.hid (wf_no1 (s := s) (ok_no2 (t := t) hlt (by rw [HFA.out]; simp [d1, d2, d3])))
        try clear cf68
        try clear cf69
        try clear cf70
        have cf71 := blk2 (Ext.block (((hz1.trans hx).trans hx1).trans hz9) HB0.out.1)
        have cf72 := blk3 (Ext.block (((hz1.trans hx).trans hx1).trans hz9) HB0.out.2)
        have cf73 := blk5 (Ext.block hz9 HB1.out)
        go_wp2_with fail
        go_ret
        exact ⟨ret_bool HE.out.symm, ((((hx0.trans hz1).trans hx).trans hx1).trans hz9)⟩
    ·
     obtain rfl : k = s.hops.length := by omega
     have HE := Lib.hid (wf_yes (ok_yes B1.out HF.out) h0 B2.out HK.out)
     try clear cf3
     try clear cf4
     try clear cf5
     have cf74 := blk2 (Ext.block (hz1.trans hx) HB0.out.1)
     have cf75 := blk3 (Ext.block (hz1.trans hx) HB0.out.2)
     go_wp2_with fail
     go_ret
     exact ⟨ret_bool HE.out.symm, ((hx0.trans hz1).trans hx)⟩
end
section
open Go.ChangeShapes Go.WideShapes Go.ChangeAt Go.RowKit Go.Deep
def kindGo (t : Topo) : Int → List Hop → Int
 | kd, [] => if kd == 1 then 1 else if kd == 2 then 2 else 0
 | kd, h :: l => if h.eg == 0 then kindGo t kd l else if (kd != 0) && (ifKind t h.asn h.eg != kd) then 0 else kindGo t (ifKind t h.asn h.eg) l
def segKind (t : Topo) (s : Seg) : Int := if wfSeg t s && (asAt t (hopAt s.hops 0).asn).core then kindGo t 0 s.hops else 0
def validSeg (t : Topo) (s : Seg) : Bool := wfSeg t s && decide (firstBad t s < 0) && (segKind t s != 0) && inR s.ts 0 1000000 && isRes s.beta
def segUsable (t : Topo) (s : Seg) (now : Int) : Bool := validSeg t s && isTerm s && decide (s.ts ≤ now) && decide (now ≤ leastExp s.hops)
theorem wf_facts {t : Topo} {s : Seg} (h : wfSeg t s = true) : 0 < s.hops.length ∧ isAs t (hopAt s.hops 0).asn = true := by
 unfold wfSeg at h
 simp only [Bool.and_eq_true] at h
 have hl := wf_len' h.1.1
 refine ⟨by omega, ?_⟩
 have h1 := h.1.1
 unfold hopsOk at h1
 simp only [Bool.and_eq_true] at h1
 have h2 := allTo_true.1 h1.2 0 (by omega)
 unfold hopFresh at h2
 simp only [Bool.and_eq_true] at h2
 exact h2.1.2
theorem kind_skip {t : Topo} {l : List Hop} {k : Nat} {kd : Int} (hk : k < l.length) (h : (l[k].eg == 0) = true) : kindGo t kd (l.drop k) = kindGo t kd (l.drop (k + 1)) := by
 rw [List.drop_eq_getElem_cons hk]; conv => lhs; unfold kindGo
 rw [h]; rfl
theorem kind_bad {t : Topo} {l : List Hop} {k : Nat} {kd : Int} (hk : k < l.length) (h : (l[k].eg == 0) = false) (h1 : (kd == 0) = false) (h2 : (ifKind t l[k].asn l[k].eg == kd) = false) : kindGo t kd (l.drop k) = 0 := by
 rw [List.drop_eq_getElem_cons hk]; unfold kindGo
 simp [h, bne, h1, h2]
theorem kind_go {t : Topo} {l : List Hop} {k : Nat} {kd : Int} (hk : k < l.length) (h : (l[k].eg == 0) = false) (h1 : (kd == 0) = true ∨ (ifKind t l[k].asn l[k].eg == kd) = true) : kindGo t kd (l.drop k) = kindGo t (ifKind t l[k].asn l[k].eg) (l.drop (k + 1)) := by
 rw [List.drop_eq_getElem_cons hk]; conv => lhs; unfold kindGo
 rcases h1 with h1 | h1 <;> simp [h, bne, h1]
set_option maxRecDepth 100000 in
set_option maxHeartbeats 1000000 in
theorem s_FirstAS (s : Seg) (v : Value) (w : World) (r : RdS Hop.rep w v s.hops) (h0 : 0 < s.hops.length) (q : Int) (hq : s.hops[0].asn = q) :
  Calls Try.prog 233 #[.agg #[.int .i64 s.ts, .int .i64 s.beta, v]] w fun e w' => e = .returned (.int .i64 (q)) ∧ Ext w w' := by
 obtain ⟨o, cap, rfl, hsm⟩ := r.shape
 have hx0 : Ext w (w.alloc (.cells #[.int .i64 s.ts, .int .i64 s.beta, .slice o s.hops.length cap] 60)) := (Ext.refl _).alloc _
 have HB0 := Lib.hid (blk_new w (.cells #[.int .i64 s.ts, .int .i64 s.beta, .slice o s.hops.length cap] 60))
 go_enter Try.func233, Try.ntmps233
 obtain ⟨b, off, rfl, hc⟩ := Hop.at (r.ext hx0) 0 h0
 simp only [Nat.zero_mul, Nat.add_zero] at hc
 have h1 : ((s.hops.length : Int) == 0) = false := by simp; exact List.ne_nil_of_length_pos h0
 have h2 : (0 : Int) < (s.hops.length : Int) := by omega
 have HE := Lib.hid hq
 clear hq
 have cf1 := blk3 HB0.out
 go_wp2_with fail
 go_ret
 exact ⟨ret_int HE.out, hx0⟩
set_option maxRecDepth 100000 in
set_option maxHeartbeats 8000000 in
theorem s_SegmentKind (t : Topo) (v1 v2 : Value) (s : Seg) (v : Value)  (w : World) (ha : RdS ASd.rep w v1 t.ases) (hk : RdS Lnk.rep w v2 t.links) (r : RdS Hop.rep w v s.hops) (hl : s.hops.length ≤ 1048576) :
  Calls Try.prog 216 #[.agg #[v1, v2], .agg #[.int .i64 s.ts, .int .i64 s.beta, v]] w fun e w' => e = .returned (.int .i64 (segKind t s)) ∧ Ext w w' := by
 obtain ⟨o, cap, rfl, hsm⟩ := r.shape
 have hx0 := ext2 w (.cells #[v1, v2] 41) (.cells #[.int .i64 s.ts, .int .i64 s.beta, .slice o s.hops.length cap] 60)
 have HB0 := Lib.hid (al2 w (.cells #[v1, v2] 41) (.cells #[.int .i64 s.ts, .int .i64 s.beta, .slice o s.hops.length cap] 60))
 go_enter Try.func216, Try.ntmps216
 obtain ⟨W0, hW0⟩ : ∃ W0 : World, W0 = ((w.alloc (.cells #[v1, v2] 41)).alloc (.cells #[.int .i64 s.ts, .int .i64 s.beta, .slice o s.hops.length cap] 60)) := ⟨_, rfl⟩
 rw [← hW0] at hx0 HB0
 obtain ⟨oA, cA, rfl, _⟩ := ha.shape
 have cf1 := blk2 HB0.out.1
 have cf2 := blk3 HB0.out.2
 go_wp2_with fail
 rw [← hW0]
 clear hW0
 cases bb : wfSeg t s
 ·
  have HE := Lib.hid (show segKind t s = 0 by unfold segKind; rw [bb]; rfl)
  have cf3 := blk2 HB0.out.1
  have cf4 := blk3 HB0.out.2
  go_wp2_with fail
  refine wp_region_ext (by kernel_rfl) (by kernel_rfl) ?_
  have q0 := ExtW.cell (cf3.1)
  have q1 := ExtW.cell (cf3.2)
  have q2 := ExtW.cell (cf4.1)
  have q3 := ExtW.cell (cf4.2.1)
  have q4 := ExtW.cell (cf4.2.2)
  repeat (first | go_big_quiet_step (((first | (go_at_call 214; exact Calls.ext_of (s_WellFormed t _ _ s _ _ ((ha.ext hx0).ext (ExtW.h _)) ((hk.ext hx0).ext (ExtW.h _)) ((r.ext hx0).ext (ExtW.h _)) hl))))) | quiet_step (((first | (go_at_call 214; exact Calls.ext_of (s_WellFormed t _ _ s _ _ ((ha.ext hx0).ext (ExtW.h _)) ((hk.ext hx0).ext (ExtW.h _)) ((r.ext hx0).ext (ExtW.h _)) hl))))))
  refine wpQuiet_nil ?_
  intro w1 hw1
  have hz1 := ExtW.out hw1
  clear hw1 q0 q1 q2 q3 q4
  go_wp2_with fail
  go_ret
  exact ⟨ret_int HE.out.symm, (hx0.trans hz1)⟩
 ·
  obtain ⟨h0, hA⟩ := wf_facts bb
  obtain ⟨b, off, rfl, hc0⟩ := Hop.at (r.ext hx0) 0 h0
  have h00 : (0 : Int) < (s.hops.length : Int) := by omega
  simp only [Nat.zero_mul, Nat.add_zero] at hc0
  have hx00 : hopAt s.hops 0 = s.hops[0] := hopAt_at h0
  rw [hx00] at hA
  have HX0 := Lib.hid hx00
  clear hx00
  obtain ⟨hp1, hp2⟩ := isAs_lt hA
  have hp3 : s.hops[0].asn < t.ases.length := by omega
  obtain ⟨bA, offA, rfl, hcA⟩ := ASd.at (ha.ext hx0) s.hops[0].asn.toNat hp2
  have HC := Lib.hid (show (asAt t s.hops[0].asn).core = t.ases[s.hops[0].asn.toNat].core by rw [asAt_at hp1 hp2])
  cases bc : t.ases[s.hops[0].asn.toNat].core
  ·
   have HE := Lib.hid (show segKind t s = 0 by unfold segKind; rw [HX0.out, HC.out, bc, bb]; rfl)
   try clear cf1
   try clear cf2
   have cf5 := blk2 HB0.out.1
   have cf6 := blk3 HB0.out.2
   go_wp2_with fail
   refine wp_region_ext (by kernel_rfl) (by kernel_rfl) ?_
   have q0 := ExtW.cell (cf5.1)
   have q1 := ExtW.cell (cf5.2)
   have q2 := ExtW.cell (cf6.1)
   have q3 := ExtW.cell (cf6.2.1)
   have q4 := ExtW.cell (cf6.2.2)
   have q5 := ExtW.cell (hc0.1)
   have q6 := ExtW.cell (hc0.2.1)
   have q7 := ExtW.cell (hc0.2.2.1)
   have q8 := ExtW.cell (hc0.2.2.2.1)
   have q9 := ExtW.cell (hc0.2.2.2.2)
   have q10 := ExtW.cell (hcA.1)
   have q11 := ExtW.cell (hcA.2.1)
   have q12 := ExtW.cell (hcA.2.2)
   repeat (first | go_big_quiet_step (((first | (go_at_call 214; exact Calls.ext_of (s_WellFormed t _ _ s _ _ ((ha.ext hx0).ext (ExtW.h _)) ((hk.ext hx0).ext (ExtW.h _)) ((r.ext hx0).ext (ExtW.h _)) hl)) | (go_at_call 233; exact Calls.ext_of (s_FirstAS s _ _ ((r.ext hx0).ext (ExtW.h _)) h0 _ rfl))))) | quiet_step (((first | (go_at_call 214; exact Calls.ext_of (s_WellFormed t _ _ s _ _ ((ha.ext hx0).ext (ExtW.h _)) ((hk.ext hx0).ext (ExtW.h _)) ((r.ext hx0).ext (ExtW.h _)) hl)) | (go_at_call 233; exact Calls.ext_of (s_FirstAS s _ _ ((r.ext hx0).ext (ExtW.h _)) h0 _ rfl))))))
   refine wpQuiet_nil ?_
   intro w2 hw2
   have hz2 := ExtW.out hw2
   clear hw2 q0 q1 q2 q3 q4 q5 q6 q7 q8 q9 q10 q11 q12
   go_wp2_with fail
   go_ret
   exact ⟨ret_int HE.out.symm, (hx0.trans hz2)⟩
  ·
   have HE := Lib.hid (show segKind t s = kindGo t 0 (s.hops.drop 0) by unfold segKind; rw [HX0.out, HC.out, bc, bb]; rfl)
   try clear cf1
   try clear cf2
   have cf7 := blk2 HB0.out.1
   have cf8 := blk3 HB0.out.2
   go_wp2_with fail
   refine wp_region_ext (by kernel_rfl) (by kernel_rfl) ?_
   have q0 := ExtW.cell (cf7.1)
   have q1 := ExtW.cell (cf7.2)
   have q2 := ExtW.cell (cf8.1)
   have q3 := ExtW.cell (cf8.2.1)
   have q4 := ExtW.cell (cf8.2.2)
   have q5 := ExtW.cell (hc0.1)
   have q6 := ExtW.cell (hc0.2.1)
   have q7 := ExtW.cell (hc0.2.2.1)
   have q8 := ExtW.cell (hc0.2.2.2.1)
   have q9 := ExtW.cell (hc0.2.2.2.2)
   have q10 := ExtW.cell (hcA.1)
   have q11 := ExtW.cell (hcA.2.1)
   have q12 := ExtW.cell (hcA.2.2)
   repeat (first | go_big_quiet_step (((first | (go_at_call 214; exact Calls.ext_of (s_WellFormed t _ _ s _ _ ((ha.ext hx0).ext (ExtW.h _)) ((hk.ext hx0).ext (ExtW.h _)) ((r.ext hx0).ext (ExtW.h _)) hl)) | (go_at_call 233; exact Calls.ext_of (s_FirstAS s _ _ ((r.ext hx0).ext (ExtW.h _)) h0 _ rfl))))) | quiet_step (((first | (go_at_call 214; exact Calls.ext_of (s_WellFormed t _ _ s _ _ ((ha.ext hx0).ext (ExtW.h _)) ((hk.ext hx0).ext (ExtW.h _)) ((r.ext hx0).ext (ExtW.h _)) hl)) | (go_at_call 233; exact Calls.ext_of (s_FirstAS s _ _ ((r.ext hx0).ext (ExtW.h _)) h0 _ rfl))))))
   refine wpQuiet_nil ?_
   intro w3 hw3
   have hz3 := ExtW.out hw3
   clear hw3 q0 q1 q2 q3 q4 q5 q6 q7 q8 q9 q10 q11 q12
   try clear cf7
   try clear cf8
   have cf9 := blk2 (Ext.block hz3 HB0.out.1)
   have cf10 := blk3 (Ext.block hz3 HB0.out.2)
   go_wp2_with fail
   clear hc0 hcA bc bb hA
   go_loopg [5, 6] s.hops.length (fun gk kd i wr => ∃ (k : Nat) (n : Int), gk + k = s.hops.length ∧ kd = .int .i64 n ∧ i = .int .i64 k ∧ Hid (segKind t s = kindGo t n (s.hops.drop k)) ∧ Ext w3 wr)
   case atStart => exact ⟨0, 0, by omega, rfl, rfl, HE, Ext.refl _⟩
   case round =>
    obtain ⟨k, n, hgk, rfl, rfl, HK, hx⟩ := hrel
    have HGK := Lib.hid hgk
    clear hgk
    have hkl : k ≤ s.hops.length := by have h1 := HGK.out; omega
    by_cases hlt : k < s.hops.length
    ·
     obtain ⟨b', off', hbo, hc⟩ := Hop.at (r.ext ((hx0.trans hz3).trans hx)) k hlt
     cases hbo
     have h4 : (k : Int) < (s.hops.length : Int) := by omega
     cases b5 : (s.hops[k].eg == 0)
     ·
      try clear cf9
      try clear cf10
      have cf11 := blk2 (Ext.block (hz3.trans hx) HB0.out.1)
      have cf12 := blk3 (Ext.block (hz3.trans hx) HB0.out.2)
      go_upto_region 8 with (fail)
      go_wp2_with fail
      refine wp_region_ext (by kernel_rfl) (by kernel_rfl) ?_
      have q0 := ExtW.cell (cf11.1)
      have q1 := ExtW.cell (cf11.2)
      have q2 := ExtW.cell (cf12.1)
      have q3 := ExtW.cell (cf12.2.1)
      have q4 := ExtW.cell (cf12.2.2)
      have q5 := ExtW.cell (hc.1)
      have q6 := ExtW.cell (hc.2.1)
      have q7 := ExtW.cell (hc.2.2.1)
      have q8 := ExtW.cell (hc.2.2.2.1)
      have q9 := ExtW.cell (hc.2.2.2.2)
      repeat (first | go_big_quiet_step (((first | (go_at_call 234; exact Calls.ext_of (s_InterfaceKind t _ _ s.hops[k].asn s.hops[k].eg _ ((hk.ext ((hx0.trans hz3).trans hx)).ext (ExtW.h _))))))) | quiet_step (((first | (go_at_call 234; exact Calls.ext_of (s_InterfaceKind t _ _ s.hops[k].asn s.hops[k].eg _ ((hk.ext ((hx0.trans hz3).trans hx)).ext (ExtW.h _))))))))
      refine wpQuiet_nil ?_
      intro w4 hw4
      have hz4 := ExtW.out hw4
      clear hw4 q0 q1 q2 q3 q4 q5 q6 q7 q8 q9
      generalize hik : ifKind t s.hops[k].asn s.hops[k].eg = ik
      have HIK := Lib.hid hik
      clear hik
      cases k0 : (n == 0)
      ·
       have k0' : (n != 0) = true := by simp only [bne, k0]; rfl
       cases k1 : (ik == n)
       ·
        have k1' : (ik != n) = true := by simp only [bne, k1]; rfl
        have HE2 := Lib.hid (HK.out.trans (kind_bad hlt b5 k0 (by rw [HIK.out]; exact k1)))
        try clear cf11
        try clear cf12
        have cf13 := blk2 (Ext.block ((hz3.trans hx).trans hz4) HB0.out.1)
        have cf14 := blk3 (Ext.block ((hz3.trans hx).trans hz4) HB0.out.2)
        have cf15 := Hop.at_ext hz4 hc
        go_wp2_with fail
        go_ret
        exact ⟨ret_int HE2.out.symm, (((hx0.trans hz3).trans hx).trans hz4)⟩
       ·
        have k1' : (ik != n) = false := by simp only [bne, k1]; rfl
        have HE2 := Lib.hid (HK.out.trans (kind_go hlt b5 (.inr (by rw [HIK.out]; exact k1))))
        rw [HIK.out] at HE2
        try clear cf11
        try clear cf12
        have cf16 := blk2 (Ext.block ((hz3.trans hx).trans hz4) HB0.out.1)
        have cf17 := blk3 (Ext.block ((hz3.trans hx).trans hz4) HB0.out.2)
        have cf18 := Hop.at_ext hz4 hc
        go_wp2_with fail
        go_roundg (gk - 1)
        case measure => have h1 := HGK.out; omega
        case rel => exact ⟨k + 1, _, by have h1 := HGK.out; omega, rfl, congrArg (Value.int .i64) (by first | omega | (unfold wrap64; omega)), HE2, (hx.trans hz4)⟩
      ·
       have k0' : (n != 0) = false := by simp only [bne, k0]; rfl
       have HE2 := Lib.hid (HK.out.trans (kind_go hlt b5 (.inl k0)))
       rw [HIK.out] at HE2
       try clear cf11
       try clear cf12
       have cf19 := blk2 (Ext.block ((hz3.trans hx).trans hz4) HB0.out.1)
       have cf20 := blk3 (Ext.block ((hz3.trans hx).trans hz4) HB0.out.2)
       have cf21 := Hop.at_ext hz4 hc
       go_wp2_with fail
       go_roundg (gk - 1)
       case measure => have h1 := HGK.out; omega
       case rel => exact ⟨k + 1, _, by have h1 := HGK.out; omega, rfl, congrArg (Value.int .i64) (by first | omega | (unfold wrap64; omega)), HE2, (hx.trans hz4)⟩
     ·
      have HE2 := Lib.hid (HK.out.trans (kind_skip (t := t) hlt b5))
      try clear cf9
      try clear cf10
      have cf22 := blk2 (Ext.block (hz3.trans hx) HB0.out.1)
      have cf23 := blk3 (Ext.block (hz3.trans hx) HB0.out.2)
      go_wp2_with fail
      go_roundg (gk - 1)
      case measure => have h1 := HGK.out; omega
      case rel => exact ⟨k + 1, _, by have h1 := HGK.out; omega, rfl, congrArg (Value.int .i64) (by first | omega | (unfold wrap64; omega)), HE2, hx⟩
    ·
     obtain rfl : k = s.hops.length := by omega
     have HE2 : Hid (segKind t s = if n == 1 then 1 else if n == 2 then 2 else 0) := Lib.hid (by rw [HK.out, List.drop_length]; rfl)
     cases k1 : (n == 1)
     ·
      cases k2 : (n == 2)
      ·
       try clear cf9
       try clear cf10
       have cf24 := blk2 (Ext.block (hz3.trans hx) HB0.out.1)
       have cf25 := blk3 (Ext.block (hz3.trans hx) HB0.out.2)
       go_wp2_with fail
       go_ret
       exact ⟨ret_int (by rw [HE2.out, k1, k2]; rfl), ((hx0.trans hz3).trans hx)⟩
      ·
       try clear cf9
       try clear cf10
       have cf26 := blk2 (Ext.block (hz3.trans hx) HB0.out.1)
       have cf27 := blk3 (Ext.block (hz3.trans hx) HB0.out.2)
       go_wp2_with fail
       go_ret
       exact ⟨ret_int (by rw [HE2.out, k1, k2]; rfl), ((hx0.trans hz3).trans hx)⟩
     ·
      try clear cf9
      try clear cf10
      have cf28 := blk2 (Ext.block (hz3.trans hx) HB0.out.1)
      have cf29 := blk3 (Ext.block (hz3.trans hx) HB0.out.2)
      go_wp2_with fail
      go_ret
      exact ⟨ret_int (by rw [HE2.out, k1]; rfl), ((hx0.trans hz3).trans hx)⟩
end
end Go.Proofs.Ytikbeiafobnblaa
