/- What these laws need: FnFlips: Contracts of well-formed segments, their kinds, and valid and usable ones, program and reference. Contracts of the kinds of segments, and of valid and usable ones, program and reference. -/
import Derived.Test.YtikbeiafobnblaaGreatKR10
import Derived.Test.YtikbeiafobnblaaGreatKR50
namespace Go.Proofs.YtikbeiafobnblaaGreat
section
open Go.ChangeShapes Go.WideShapes Go.ChangeAt Go.RowKit Go.Deep
/-- The ith hop ends the segment or goes on, and follows the one before it. -/
def wfJoin (t : Topo) (l : List Hop) (i : Nat) : Bool := !(((hopAt l i).eg == 0) && decide (i + 1 < l.length)) && (decide (i = 0) || (((remEnd t (hopAt l (i - 1)).asn (hopAt l (i - 1)).eg).1 == (hopAt l i).asn) && ((remEnd t (hopAt l (i - 1)).asn (hopAt l (i - 1)).eg).2 == (hopAt l i).ing)))
def wfSeg (t : Topo) (s : Seg) : Bool := hopsOk t s.hops && ((hopAt s.hops 0).ing == 0) && allTo (wfJoin t s.hops) s.hops.length
theorem wf_len' {t : Topo} {l : List Hop} (h : hopsOk t l = true) : 1 ≤ l.length ∧ l.length ≤ 8 := by
 unfold hopsOk at h
 simp only [Bool.and_eq_true] at h
 have := inR_true.1 h.1
 omega
theorem wf_no1 {t : Topo} {s : Seg} (h : hopsOk t s.hops = false) : wfSeg t s = false := by unfold wfSeg; rw [h]; rfl
theorem wf_no2 {t : Topo} {s : Seg} (h0 : 0 < s.hops.length) (h : (s.hops[0].ing == 0) = false) : wfSeg t s = false := by unfold wfSeg; rw [hopAt_at h0, h]; simp
theorem wf_no3 {t : Topo} {s : Seg} {k : Nat} (hk : k < s.hops.length) (h : wfJoin t s.hops k = false) : wfSeg t s = false := by unfold wfSeg; rw [allTo_no hk h]; simp
theorem wf_yes {t : Topo} {s : Seg} (h1 : hopsOk t s.hops = true) (h0 : 0 < s.hops.length) (h2 : (s.hops[0].ing == 0) = true) (h3 : allTo (wfJoin t s.hops) s.hops.length = true) : wfSeg t s = true := by unfold wfSeg; rw [h1, hopAt_at h0, h2, h3]; rfl
theorem join_no1 {t : Topo} {l : List Hop} {k : Nat} (hk : k < l.length) (h1 : (l[k].eg == 0) = true) (h2 : k + 1 < l.length) : wfJoin t l k = false := by unfold wfJoin; rw [hopAt_at hk, h1, decide_eq_true h2]; rfl
theorem join_zero {t : Topo} {l : List Hop} (hk : 0 < l.length) (h : (l[0].eg == 0) = false ∨ ¬ 0 + 1 < l.length) : wfJoin t l 0 = true := by
 unfold wfJoin
 rw [hopAt_at hk]
 rcases h with h | h
 ·
  rw [h]; rfl
 ·
  rw [decide_eq_false h]; simp
theorem join_at {t : Topo} {l : List Hop} {k : Nat} (hk : k + 1 < l.length) (h : (l[k + 1].eg == 0) = false ∨ ¬ k + 1 + 1 < l.length) :
  wfJoin t l (k + 1) = (((remEnd t l[k].asn l[k].eg).1 == l[k + 1].asn) && ((remEnd t l[k].asn l[k].eg).2 == l[k + 1].ing)) := by
 unfold wfJoin
 rw [hopAt_at hk, Nat.add_sub_cancel, hopAt_at (show k < l.length by omega)]
 rcases h with h | h
 ·
  rw [h]; simp
 ·
  rw [decide_eq_false h]; simp
theorem ok_no1 {t : Topo} {l : List Hop} (h : inR (l.length : Int) 1 8 = false) : hopsOk t l = false := by unfold hopsOk; rw [h]; rfl
theorem ok_no2 {t : Topo} {l : List Hop} {k : Nat} (hk : k < l.length) (h : hopFresh t l k = false) : hopsOk t l = false := by unfold hopsOk; rw [allTo_no hk h]; simp
theorem ok_yes {t : Topo} {l : List Hop} (h : inR (l.length : Int) 1 8 = true) (h2 : allTo (hopFresh t l) l.length = true) : hopsOk t l = true := by unfold hopsOk; rw [h, h2]; rfl
theorem fresh_at {t : Topo} {l : List Hop} {k : Nat} (hk : k < l.length) : hopFresh t l k = (validHop l[k] && isAs t l[k].asn && !(hasI ((l.map (·.asn)).take k) l[k].asn)) := by unfold hopFresh; rw [hopAt_at hk]
set_option maxRecDepth 100000 in
set_option maxHeartbeats 8000000 in
theorem s_WellFormed (t : Topo) (v1 v2 : Value) (s : Seg) (v : Value)  (w : World) (ha : RdS ASd.rep w v1 t.ases) (hk : RdS Lnk.rep w v2 t.links) (r : RdS Hop.rep w v s.hops) (hl : s.hops.length ≤ 1048576) :
  Calls Tryz.prog 300 #[.agg #[v1, v2], .agg #[.int .i64 s.ts, .int .i64 s.beta, v]] w fun e w' => e = .returned (.bool (wfSeg t s)) ∧ Ext w w' := by
 obtain ⟨o, cap, rfl, hsm⟩ := r.shape
 have hx0 := ext2 w (.cells #[v1, v2] 33) (.cells #[.int .i64 s.ts, .int .i64 s.beta, .slice o s.hops.length cap] 216)
 have HB0 := Lib.hid (al2 w (.cells #[v1, v2] 33) (.cells #[.int .i64 s.ts, .int .i64 s.beta, .slice o s.hops.length cap] 216))
 go_enter Tryz.func300, Tryz.ntmps300
 obtain ⟨W0, hW0⟩ : ∃ W0 : World, W0 = ((w.alloc (.cells #[v1, v2] 33)).alloc (.cells #[.int .i64 s.ts, .int .i64 s.beta, .slice o s.hops.length cap] 216)) := ⟨_, rfl⟩
 rw [← hW0] at hx0 HB0
 have cf1 := blk2 HB0.out.1
 have cf2 := blk3 HB0.out.2
 go_wp2_with fail
 rw [← hW0]
 clear hW0
 refine (s_l1In _ _ _ _).mono ?_
 rintro e _ ⟨rfl, rfl⟩
 cases bb : inR (s.hops.length : Int) 1 8
 ·
  have HE := Lib.hid (wf_no1 (s := s) (ok_no1 (t := t) bb))
  go_wp2_with fail
  go_ret
  exact ⟨ret_bool HE.out.symm, hx0⟩
 ·
  have B1 := Lib.hid bb
  obtain ⟨hl1, hl8⟩ := inR_true.1 bb
  clear bb
  have h0 : 0 < s.hops.length := by omega
  obtain ⟨b, off, rfl, hc0⟩ := Hop.at (r.ext hx0) 0 h0
  have h00 : (0 : Int) < (s.hops.length : Int) := by omega
  cases b2 : (s.hops[0].ing == 0)
  ·
   have b2' : (s.hops[0].ing != 0) = true := by simp only [bne, b2]; rfl
   have HE := Lib.hid (wf_no2 (t := t) h0 b2)
   go_wp2_with fail
   go_ret
   exact ⟨ret_bool HE.out.symm, hx0⟩
  ·
   have b2' : (s.hops[0].ing != 0) = false := by simp only [bne, b2]; rfl
   have B2 := Lib.hid b2
   clear b2
   go_wp2_with fail
   refine (s_SegmentASes s _ _ (r.ext hx0) hl).mono ?_
   rintro e w1 ⟨vl, rfl, ol, hz1⟩
   obtain ⟨li, hli⟩ : ∃ li, li = s.hops.map (·.asn) := ⟨_, rfl⟩
   rw [← hli] at ol
   have hll : li.length = s.hops.length := by rw [hli]; simp
   have HLI := Lib.hid hli
   clear hli
   obtain ⟨oa, ca, rfl, _⟩ := (ints_rep ol).shape
   have hca := (ints_rep ol).capLe
   have rl := ints_rep ol
   clear ol
   have HLL := Lib.hid hll
   clear hll
   try clear cf1
   try clear cf2
   have cf3 := blk2 (Ext.block hz1 HB0.out.1)
   have cf4 := blk3 (Ext.block hz1 HB0.out.2)
   have cf5 := Hop.at_ext hz1 hc0
   go_wp2_with fail
   clear b2' hc0
   go_loopg [6] s.hops.length (fun gk i wr => ∃ k : Nat, gk + k = s.hops.length ∧ i = .int .i64 k ∧ Hid (allTo (hopFresh t s.hops) k = true) ∧ Hid (allTo (wfJoin t s.hops) k = true) ∧ Ext w1 wr)
   case atStart => exact ⟨0, by omega, rfl, Lib.hid rfl, Lib.hid rfl, Ext.refl _⟩
   case round =>
    obtain ⟨k, hgk, rfl, HF, HK, hx⟩ := hrel
    have HGK := Lib.hid hgk
    clear hgk
    have hkl : k ≤ s.hops.length := by have h1 := HGK.out; omega
    by_cases hlt : k < s.hops.length
    ·
     obtain ⟨b', off', hbo, hc⟩ := Hop.at (r.ext ((hx0.trans hz1).trans hx)) k hlt
     cases hbo
     have h4 : (k : Int) < (s.hops.length : Int) := by omega
     have hkli : k ≤ li.length := by rw [HLL.out]; omega
     have hkca : k ≤ ca := Nat.le_trans hkli hca
     try clear cf3
     try clear cf4
     try clear cf5
     have cf6 := blk2 (Ext.block (hz1.trans hx) HB0.out.1)
     have cf7 := blk3 (Ext.block (hz1.trans hx) HB0.out.2)
     go_upto_region 8 with (fail)
     try clear cf6
     try clear cf7
     clear hc
     have hx1 : Ext wr (wr.alloc (.cells #[.int .i64 s.hops[k].asn, .int .i64 s.hops[k].ing, .int .i64 s.hops[k].eg, .int .i64 s.hops[k].exp, .int .i64 s.hops[k].mac] 44)) := (Ext.refl _).alloc _
     have HB1 := Lib.hid (blk_new wr (.cells #[.int .i64 s.hops[k].asn, .int .i64 s.hops[k].ing, .int .i64 s.hops[k].eg, .int .i64 s.hops[k].exp, .int .i64 s.hops[k].mac] 44))
     obtain ⟨wa, hwa⟩ : ∃ wa : World, wa = wr.alloc (.cells #[.int .i64 s.hops[k].asn, .int .i64 s.hops[k].ing, .int .i64 s.hops[k].eg, .int .i64 s.hops[k].exp, .int .i64 s.hops[k].mac] 44) := ⟨_, rfl⟩
     rw [← hwa]
     rw [← hwa] at hx1 HB1
     clear hwa
     have HFA := Lib.hid (fresh_at (t := t) hlt)
     rw [← HLI.out] at HFA
     cases d1 : validHop s.hops[k]
     ·
      have cf8 := blk2 (Ext.block ((hz1.trans hx).trans hx1) HB0.out.1)
      have cf9 := blk3 (Ext.block ((hz1.trans hx).trans hx1) HB0.out.2)
      have cf10 := blk5 HB1.out
      go_wp2_with fail
      refine wp_region_ext (by kernel_rfl) (by kernel_rfl) ?_
      have q0 := ExtW.cell (cf8.1)
      have q1 := ExtW.cell (cf8.2)
      have q2 := ExtW.cell (cf9.1)
      have q3 := ExtW.cell (cf9.2.1)
      have q4 := ExtW.cell (cf9.2.2)
      have q5 := ExtW.cell (cf10.1)
      have q6 := ExtW.cell (cf10.2.1)
      have q7 := ExtW.cell (cf10.2.2.1)
      have q8 := ExtW.cell (cf10.2.2.2.1)
      have q9 := ExtW.cell (cf10.2.2.2.2)
      repeat (first | go_big_quiet_step (((first | (go_at_call 221; exact Calls.ext_of (s_ValidHop s.hops[k] _))))) | quiet_step (((first | (go_at_call 221; exact Calls.ext_of (s_ValidHop s.hops[k] _))))))
      refine wpQuiet_nil ?_
      intro w2 hw2
      have hz2 := ExtW.out hw2
      clear hw2 q0 q1 q2 q3 q4 q5 q6 q7 q8 q9
      have HE := Lib.hid (wf_no1 (s := s) (ok_no2 (t := t) hlt (by rw [HFA.out]; simp [d1])))
      try clear cf8
      try clear cf9
      try clear cf10
      have cf11 := blk2 (Ext.block (((hz1.trans hx).trans hx1).trans hz2) HB0.out.1)
      have cf12 := blk3 (Ext.block (((hz1.trans hx).trans hx1).trans hz2) HB0.out.2)
      have cf13 := blk5 (Ext.block hz2 HB1.out)
      go_wp2_with fail
      go_ret
      exact ⟨ret_bool HE.out.symm, ((((hx0.trans hz1).trans hx).trans hx1).trans hz2)⟩
     ·
      cases d2 : isAs t s.hops[k].asn
      ·
       have cf14 := blk2 (Ext.block ((hz1.trans hx).trans hx1) HB0.out.1)
       have cf15 := blk3 (Ext.block ((hz1.trans hx).trans hx1) HB0.out.2)
       have cf16 := blk5 HB1.out
       go_wp2_with fail
       refine wp_region_ext (by kernel_rfl) (by kernel_rfl) ?_
       have q0 := ExtW.cell (cf14.1)
       have q1 := ExtW.cell (cf14.2)
       have q2 := ExtW.cell (cf15.1)
       have q3 := ExtW.cell (cf15.2.1)
       have q4 := ExtW.cell (cf15.2.2)
       have q5 := ExtW.cell (cf16.1)
       have q6 := ExtW.cell (cf16.2.1)
       have q7 := ExtW.cell (cf16.2.2.1)
       have q8 := ExtW.cell (cf16.2.2.2.1)
       have q9 := ExtW.cell (cf16.2.2.2.2)
       repeat (first | go_big_quiet_step (((first | (go_at_call 221; exact Calls.ext_of (s_ValidHop s.hops[k] _)) | (go_at_call 222; exact Calls.ext_of (s_l5Realm t _ _ s.hops[k].asn _ ((ha.ext (((hx0.trans hz1).trans hx).trans hx1)).ext (ExtW.h _))))))) | quiet_step (((first | (go_at_call 221; exact Calls.ext_of (s_ValidHop s.hops[k] _)) | (go_at_call 222; exact Calls.ext_of (s_l5Realm t _ _ s.hops[k].asn _ ((ha.ext (((hx0.trans hz1).trans hx).trans hx1)).ext (ExtW.h _))))))))
       refine wpQuiet_nil ?_
       intro w3 hw3
       have hz3 := ExtW.out hw3
       clear hw3 q0 q1 q2 q3 q4 q5 q6 q7 q8 q9
       have HE := Lib.hid (wf_no1 (s := s) (ok_no2 (t := t) hlt (by rw [HFA.out]; simp [d1, d2])))
       try clear cf14
       try clear cf15
       try clear cf16
       have cf17 := blk2 (Ext.block (((hz1.trans hx).trans hx1).trans hz3) HB0.out.1)
       have cf18 := blk3 (Ext.block (((hz1.trans hx).trans hx1).trans hz3) HB0.out.2)
       have cf19 := blk5 (Ext.block hz3 HB1.out)
       go_wp2_with fail
       go_ret
       exact ⟨ret_bool HE.out.symm, ((((hx0.trans hz1).trans hx).trans hx1).trans hz3)⟩
      ·
       cases d3 : hasI (li.take k) s.hops[k].asn
       ·
        have HF2 := Lib.hid (allTo_snoc HF.out (show hopFresh t s.hops k = true by rw [HFA.out, d1, d2, d3]; rfl))
        cases b5 : (s.hops[k].eg == 0)
        ·
         have cf20 := blk2 (Ext.block ((hz1.trans hx).trans hx1) HB0.out.1)
         have cf21 := blk3 (Ext.block ((hz1.trans hx).trans hx1) HB0.out.2)
         have cf22 := blk5 HB1.out
         go_wp2_with fail
         refine wp_region_ext (by kernel_rfl) (by kernel_rfl) ?_
         have q0 := ExtW.cell (cf20.1)
         have q1 := ExtW.cell (cf20.2)
         have q2 := ExtW.cell (cf21.1)
         have q3 := ExtW.cell (cf21.2.1)
         have q4 := ExtW.cell (cf21.2.2)
         have q5 := ExtW.cell (cf22.1)
         have q6 := ExtW.cell (cf22.2.1)
         have q7 := ExtW.cell (cf22.2.2.1)
         have q8 := ExtW.cell (cf22.2.2.2.1)
         have q9 := ExtW.cell (cf22.2.2.2.2)
         repeat (first | go_big_quiet_step (((first | (go_at_call 221; exact Calls.ext_of (s_ValidHop s.hops[k] _)) | (go_at_call 222; exact Calls.ext_of (s_l5Realm t _ _ s.hops[k].asn _ ((ha.ext (((hx0.trans hz1).trans hx).trans hx1)).ext (ExtW.h _)))) | (go_at_call 179; exact Calls.ext_same (s_l9Has (li.take k) _ s.hops[k].asn _ (RdS.pre ((rl.ext (hx.trans hx1)).ext (ExtW.h _)) k hkli)))))) | quiet_step (((first | (go_at_call 221; exact Calls.ext_of (s_ValidHop s.hops[k] _)) | (go_at_call 222; exact Calls.ext_of (s_l5Realm t _ _ s.hops[k].asn _ ((ha.ext (((hx0.trans hz1).trans hx).trans hx1)).ext (ExtW.h _)))) | (go_at_call 179; exact Calls.ext_same (s_l9Has (li.take k) _ s.hops[k].asn _ (RdS.pre ((rl.ext (hx.trans hx1)).ext (ExtW.h _)) k hkli)))))))
         refine wpQuiet_nil ?_
         intro w4 hw4
         have hz4 := ExtW.out hw4
         clear hw4 q0 q1 q2 q3 q4 q5 q6 q7 q8 q9
         have HEND : Hid ((s.hops[k].eg == 0) = false ∨ ¬ k + 1 < s.hops.length) := Lib.hid (.inl b5)
         clear d1 d2 d3
         rcases Nat.eq_zero_or_pos k with hk0 | hk0
         ·
          have hkz : ¬ (0 : Int) < (k : Int) := by omega
          have HE := Lib.hid (allTo_snoc HK.out (show wfJoin t s.hops k = true by subst hk0; exact join_zero h0 HEND.out))
          clear hk0
          try clear cf20
          try clear cf21
          try clear cf22
          have cf23 := blk2 (Ext.block (((hz1.trans hx).trans hx1).trans hz4) HB0.out.1)
          have cf24 := blk3 (Ext.block (((hz1.trans hx).trans hx1).trans hz4) HB0.out.2)
          have cf25 := blk5 (Ext.block hz4 HB1.out)
          go_wp2_with fail
          go_roundg (gk - 1)
          case measure => have h1 := HGK.out; omega
          case rel => exact ⟨k + 1, by have h1 := HGK.out; omega, congrArg (Value.int .i64) (by first | omega | (unfold wrap64; omega)), HF2, HE, ((hx.trans hx1).trans hz4)⟩
         ·
          obtain ⟨j, rfl⟩ : ∃ j, k = j + 1 := ⟨k - 1, by omega⟩
          have hkz : (0 : Int) < ((j + 1 : Nat) : Int) := by omega
          have hj1 : ((j + 1 : Nat) : Int) - 1 = (j : Int) := by omega
          have hjl : j < s.hops.length := by omega
          have hj4 : (j : Int) < (s.hops.length : Int) := by omega
          have HJ := Lib.hid (join_at (t := t) hlt HEND.out)
          obtain ⟨b2, off2, hbo, hd⟩ := Hop.at (r.ext ((((hx0.trans hz1).trans hx).trans hx1).trans hz4)) j hjl
          cases hbo
          try clear cf20
          try clear cf21
          try clear cf22
          have cf26 := blk2 (Ext.block (((hz1.trans hx).trans hx1).trans hz4) HB0.out.1)
          have cf27 := blk3 (Ext.block (((hz1.trans hx).trans hx1).trans hz4) HB0.out.2)
          have cf28 := blk5 (Ext.block hz4 HB1.out)
          go_wp2_with fail
          refine wp_region_ext (by kernel_rfl) (by kernel_rfl) ?_
          have q0 := ExtW.cell (cf26.1)
          have q1 := ExtW.cell (cf26.2)
          have q2 := ExtW.cell (cf27.1)
          have q3 := ExtW.cell (cf27.2.1)
          have q4 := ExtW.cell (cf27.2.2)
          have q5 := ExtW.cell (cf28.1)
          have q6 := ExtW.cell (cf28.2.1)
          have q7 := ExtW.cell (cf28.2.2.1)
          have q8 := ExtW.cell (cf28.2.2.2.1)
          have q9 := ExtW.cell (cf28.2.2.2.2)
          have q10 := ExtW.cell (hd.1)
          have q11 := ExtW.cell (hd.2.1)
          have q12 := ExtW.cell (hd.2.2.1)
          have q13 := ExtW.cell (hd.2.2.2.1)
          have q14 := ExtW.cell (hd.2.2.2.2)
          repeat (first | go_big_quiet_step (((first | (go_at_call 202; exact Calls.ext_of (s_RemoteEnd t _ _ s.hops[j].asn s.hops[j].eg _ ((hk.ext ((((hx0.trans hz1).trans hx).trans hx1).trans hz4)).ext (ExtW.h _))))))) | quiet_step (((first | (go_at_call 202; exact Calls.ext_of (s_RemoteEnd t _ _ s.hops[j].asn s.hops[j].eg _ ((hk.ext ((((hx0.trans hz1).trans hx).trans hx1).trans hz4)).ext (ExtW.h _))))))))
          refine wpQuiet_nil ?_
          intro w5 hw5
          have hz5 := ExtW.out hw5
          clear hw5 q0 q1 q2 q3 q4 q5 q6 q7 q8 q9 q10 q11 q12 q13 q14
          generalize hR : remEnd t s.hops[j].asn s.hops[j].eg = R at *
          have HR := Lib.hid hR
          clear hR
          cases c1 : (R.1 == s.hops[j + 1].asn)
          ·
           have c1' : (R.1 != s.hops[j + 1].asn) = true := by simp only [bne, c1]; rfl
           have HE := Lib.hid (wf_no3 (t := t) hlt (show wfJoin t s.hops (j + 1) = false by rw [HJ.out]; simp [c1]))
           try clear cf26
           try clear cf27
           try clear cf28
           have cf29 := blk2 (Ext.block ((((hz1.trans hx).trans hx1).trans hz4).trans hz5) HB0.out.1)
           have cf30 := blk3 (Ext.block ((((hz1.trans hx).trans hx1).trans hz4).trans hz5) HB0.out.2)
           have cf31 := blk5 (Ext.block (hz4.trans hz5) HB1.out)
           have cf32 := Hop.at_ext hz5 hd
           go_wp2_with fail
           go_ret
           exact ⟨ret_bool HE.out.symm, (((((hx0.trans hz1).trans hx).trans hx1).trans hz4).trans hz5)⟩
          ·
           have c1' : (R.1 != s.hops[j + 1].asn) = false := by simp only [bne, c1]; rfl
           cases c2 : (R.2 == s.hops[j + 1].ing)
           ·
            have c2' : (R.2 != s.hops[j + 1].ing) = true := by simp only [bne, c2]; rfl
            have HE := Lib.hid (wf_no3 (t := t) hlt (show wfJoin t s.hops (j + 1) = false by rw [HJ.out]; simp [c2]))
            try clear cf26
            try clear cf27
            try clear cf28
            have cf33 := blk2 (Ext.block ((((hz1.trans hx).trans hx1).trans hz4).trans hz5) HB0.out.1)
            have cf34 := blk3 (Ext.block ((((hz1.trans hx).trans hx1).trans hz4).trans hz5) HB0.out.2)
            have cf35 := blk5 (Ext.block (hz4.trans hz5) HB1.out)
            have cf36 := Hop.at_ext hz5 hd
            go_wp2_with fail
            go_ret
            exact ⟨ret_bool HE.out.symm, (((((hx0.trans hz1).trans hx).trans hx1).trans hz4).trans hz5)⟩
           ·
            have c2' : (R.2 != s.hops[j + 1].ing) = false := by simp only [bne, c2]; rfl
            have HE := Lib.hid (allTo_snoc HK.out (show wfJoin t s.hops (j + 1) = true by rw [HJ.out, c1, c2]; rfl))
            try clear cf26
            try clear cf27
            try clear cf28
            have cf37 := blk2 (Ext.block ((((hz1.trans hx).trans hx1).trans hz4).trans hz5) HB0.out.1)
            have cf38 := blk3 (Ext.block ((((hz1.trans hx).trans hx1).trans hz4).trans hz5) HB0.out.2)
            have cf39 := blk5 (Ext.block (hz4.trans hz5) HB1.out)
            have cf40 := Hop.at_ext hz5 hd
            go_wp2_with fail
            go_roundg (gk - 1)
            case measure => have h1 := HGK.out; omega
            case rel => exact ⟨j + 1 + 1, by have h1 := HGK.out; omega, congrArg (Value.int .i64) (by first | omega | (unfold wrap64; omega)), HF2, HE, (((hx.trans hx1).trans hz4).trans hz5)⟩
        ·
         have hend : k + 1 < s.hops.length ∨ ¬ k + 1 < s.hops.length := by omega
         rcases hend with hend | hend
         ·
          have h6 : decide ((k : Int) < (s.hops.length : Int) - 1) = true := by simp; omega
          have h6' : (k : Int) < (s.hops.length : Int) - 1 := by omega
          have HE := Lib.hid (wf_no3 (t := t) hlt (join_no1 hlt b5 hend))
          clear hend
          have cf41 := blk2 (Ext.block ((hz1.trans hx).trans hx1) HB0.out.1)
          have cf42 := blk3 (Ext.block ((hz1.trans hx).trans hx1) HB0.out.2)
          have cf43 := blk5 HB1.out
          go_wp2_with fail
          refine wp_region_ext (by kernel_rfl) (by kernel_rfl) ?_
          have q0 := ExtW.cell (cf41.1)
          have q1 := ExtW.cell (cf41.2)
          have q2 := ExtW.cell (cf42.1)
          have q3 := ExtW.cell (cf42.2.1)
          have q4 := ExtW.cell (cf42.2.2)
          have q5 := ExtW.cell (cf43.1)
          have q6 := ExtW.cell (cf43.2.1)
          have q7 := ExtW.cell (cf43.2.2.1)
          have q8 := ExtW.cell (cf43.2.2.2.1)
          have q9 := ExtW.cell (cf43.2.2.2.2)
          repeat (first | go_big_quiet_step (((first | (go_at_call 221; exact Calls.ext_of (s_ValidHop s.hops[k] _)) | (go_at_call 222; exact Calls.ext_of (s_l5Realm t _ _ s.hops[k].asn _ ((ha.ext (((hx0.trans hz1).trans hx).trans hx1)).ext (ExtW.h _)))) | (go_at_call 179; exact Calls.ext_same (s_l9Has (li.take k) _ s.hops[k].asn _ (RdS.pre ((rl.ext (hx.trans hx1)).ext (ExtW.h _)) k hkli)))))) | quiet_step (((first | (go_at_call 221; exact Calls.ext_of (s_ValidHop s.hops[k] _)) | (go_at_call 222; exact Calls.ext_of (s_l5Realm t _ _ s.hops[k].asn _ ((ha.ext (((hx0.trans hz1).trans hx).trans hx1)).ext (ExtW.h _)))) | (go_at_call 179; exact Calls.ext_same (s_l9Has (li.take k) _ s.hops[k].asn _ (RdS.pre ((rl.ext (hx.trans hx1)).ext (ExtW.h _)) k hkli)))))))
          refine wpQuiet_nil ?_
          intro w6 hw6
          have hz6 := ExtW.out hw6
          clear hw6 q0 q1 q2 q3 q4 q5 q6 q7 q8 q9
          try clear cf41
          try clear cf42
          try clear cf43
          have cf44 := blk2 (Ext.block (((hz1.trans hx).trans hx1).trans hz6) HB0.out.1)
          have cf45 := blk3 (Ext.block (((hz1.trans hx).trans hx1).trans hz6) HB0.out.2)
          have cf46 := blk5 (Ext.block hz6 HB1.out)
          go_wp2_with fail
          go_ret
          exact ⟨ret_bool HE.out.symm, ((((hx0.trans hz1).trans hx).trans hx1).trans hz6)⟩
         ·
          have h6 : decide ((k : Int) < (s.hops.length : Int) - 1) = false := by simp; omega
          have h6' : ¬ (k : Int) < (s.hops.length : Int) - 1 := by omega
          have HEND : Hid ((s.hops[k].eg == 0) = false ∨ ¬ k + 1 < s.hops.length) := Lib.hid (.inr hend)
          clear hend
          have cf47 := blk2 (Ext.block ((hz1.trans hx).trans hx1) HB0.out.1)
          have cf48 := blk3 (Ext.block ((hz1.trans hx).trans hx1) HB0.out.2)
          have cf49 := blk5 HB1.out
          go_wp2_with fail
          refine wp_region_ext (by kernel_rfl) (by kernel_rfl) ?_
          have q0 := ExtW.cell (cf47.1)
          have q1 := ExtW.cell (cf47.2)
          have q2 := ExtW.cell (cf48.1)
          have q3 := ExtW.cell (cf48.2.1)
          have q4 := ExtW.cell (cf48.2.2)
          have q5 := ExtW.cell (cf49.1)
          have q6 := ExtW.cell (cf49.2.1)
          have q7 := ExtW.cell (cf49.2.2.1)
          have q8 := ExtW.cell (cf49.2.2.2.1)
          have q9 := ExtW.cell (cf49.2.2.2.2)
          repeat (first | go_big_quiet_step (((first | (go_at_call 221; exact Calls.ext_of (s_ValidHop s.hops[k] _)) | (go_at_call 222; exact Calls.ext_of (s_l5Realm t _ _ s.hops[k].asn _ ((ha.ext (((hx0.trans hz1).trans hx).trans hx1)).ext (ExtW.h _)))) | (go_at_call 179; exact Calls.ext_same (s_l9Has (li.take k) _ s.hops[k].asn _ (RdS.pre ((rl.ext (hx.trans hx1)).ext (ExtW.h _)) k hkli)))))) | quiet_step (((first | (go_at_call 221; exact Calls.ext_of (s_ValidHop s.hops[k] _)) | (go_at_call 222; exact Calls.ext_of (s_l5Realm t _ _ s.hops[k].asn _ ((ha.ext (((hx0.trans hz1).trans hx).trans hx1)).ext (ExtW.h _)))) | (go_at_call 179; exact Calls.ext_same (s_l9Has (li.take k) _ s.hops[k].asn _ (RdS.pre ((rl.ext (hx.trans hx1)).ext (ExtW.h _)) k hkli)))))))
          refine wpQuiet_nil ?_
          intro w7 hw7
          have hz7 := ExtW.out hw7
          clear hw7 q0 q1 q2 q3 q4 q5 q6 q7 q8 q9
          clear d1 d2 d3
          rcases Nat.eq_zero_or_pos k with hk0 | hk0
          ·
           have hkz : ¬ (0 : Int) < (k : Int) := by omega
           have HE := Lib.hid (allTo_snoc HK.out (show wfJoin t s.hops k = true by subst hk0; exact join_zero h0 HEND.out))
           clear hk0
           try clear cf47
           try clear cf48
           try clear cf49
           have cf50 := blk2 (Ext.block (((hz1.trans hx).trans hx1).trans hz7) HB0.out.1)
           have cf51 := blk3 (Ext.block (((hz1.trans hx).trans hx1).trans hz7) HB0.out.2)
           have cf52 := blk5 (Ext.block hz7 HB1.out)
           go_wp2_with fail
           go_roundg (gk - 1)
           case measure => have h1 := HGK.out; omega
           case rel => exact ⟨k + 1, by have h1 := HGK.out; omega, congrArg (Value.int .i64) (by first | omega | (unfold wrap64; omega)), HF2, HE, ((hx.trans hx1).trans hz7)⟩
          ·
           obtain ⟨j, rfl⟩ : ∃ j, k = j + 1 := ⟨k - 1, by omega⟩
           have hkz : (0 : Int) < ((j + 1 : Nat) : Int) := by omega
           have hj1 : ((j + 1 : Nat) : Int) - 1 = (j : Int) := by omega
           have hjl : j < s.hops.length := by omega
           have hj4 : (j : Int) < (s.hops.length : Int) := by omega
           have HJ := Lib.hid (join_at (t := t) hlt HEND.out)
           obtain ⟨b2, off2, hbo, hd⟩ := Hop.at (r.ext ((((hx0.trans hz1).trans hx).trans hx1).trans hz7)) j hjl
           cases hbo
           try clear cf47
           try clear cf48
           try clear cf49
           have cf53 := blk2 (Ext.block (((hz1.trans hx).trans hx1).trans hz7) HB0.out.1)
           have cf54 := blk3 (Ext.block (((hz1.trans hx).trans hx1).trans hz7) HB0.out.2)
           have cf55 := blk5 (Ext.block hz7 HB1.out)
           go_wp2_with fail
           refine wp_region_ext (by kernel_rfl) (by kernel_rfl) ?_
           have q0 := ExtW.cell (cf53.1)
           have q1 := ExtW.cell (cf53.2)
           have q2 := ExtW.cell (cf54.1)
           have q3 := ExtW.cell (cf54.2.1)
           have q4 := ExtW.cell (cf54.2.2)
           have q5 := ExtW.cell (cf55.1)
           have q6 := ExtW.cell (cf55.2.1)
           have q7 := ExtW.cell (cf55.2.2.1)
           have q8 := ExtW.cell (cf55.2.2.2.1)
           have q9 := ExtW.cell (cf55.2.2.2.2)
           have q10 := ExtW.cell (hd.1)
           have q11 := ExtW.cell (hd.2.1)
           have q12 := ExtW.cell (hd.2.2.1)
           have q13 := ExtW.cell (hd.2.2.2.1)
           have q14 := ExtW.cell (hd.2.2.2.2)
           repeat (first | go_big_quiet_step (((first | (go_at_call 202; exact Calls.ext_of (s_RemoteEnd t _ _ s.hops[j].asn s.hops[j].eg _ ((hk.ext ((((hx0.trans hz1).trans hx).trans hx1).trans hz7)).ext (ExtW.h _))))))) | quiet_step (((first | (go_at_call 202; exact Calls.ext_of (s_RemoteEnd t _ _ s.hops[j].asn s.hops[j].eg _ ((hk.ext ((((hx0.trans hz1).trans hx).trans hx1).trans hz7)).ext (ExtW.h _))))))))
           refine wpQuiet_nil ?_
           intro w8 hw8
           have hz8 := ExtW.out hw8
           clear hw8 q0 q1 q2 q3 q4 q5 q6 q7 q8 q9 q10 q11 q12 q13 q14
           generalize hR : remEnd t s.hops[j].asn s.hops[j].eg = R at *
           have HR := Lib.hid hR
           clear hR
           cases c1 : (R.1 == s.hops[j + 1].asn)
           ·
            have c1' : (R.1 != s.hops[j + 1].asn) = true := by simp only [bne, c1]; rfl
            have HE := Lib.hid (wf_no3 (t := t) hlt (show wfJoin t s.hops (j + 1) = false by rw [HJ.out]; simp [c1]))
            try clear cf53
            try clear cf54
            try clear cf55
            have cf56 := blk2 (Ext.block ((((hz1.trans hx).trans hx1).trans hz7).trans hz8) HB0.out.1)
            have cf57 := blk3 (Ext.block ((((hz1.trans hx).trans hx1).trans hz7).trans hz8) HB0.out.2)
            have cf58 := blk5 (Ext.block (hz7.trans hz8) HB1.out)
            have cf59 := Hop.at_ext hz8 hd
            go_wp2_with fail
            go_ret
            exact ⟨ret_bool HE.out.symm, (((((hx0.trans hz1).trans hx).trans hx1).trans hz7).trans hz8)⟩
           ·
            have c1' : (R.1 != s.hops[j + 1].asn) = false := by simp only [bne, c1]; rfl
            cases c2 : (R.2 == s.hops[j + 1].ing)
            ·
             have c2' : (R.2 != s.hops[j + 1].ing) = true := by simp only [bne, c2]; rfl
             have HE := Lib.hid (wf_no3 (t := t) hlt (show wfJoin t s.hops (j + 1) = false by rw [HJ.out]; simp [c2]))
             try clear cf53
             try clear cf54
             try clear cf55
             have cf60 := blk2 (Ext.block ((((hz1.trans hx).trans hx1).trans hz7).trans hz8) HB0.out.1)
             have cf61 := blk3 (Ext.block ((((hz1.trans hx).trans hx1).trans hz7).trans hz8) HB0.out.2)
             have cf62 := blk5 (Ext.block (hz7.trans hz8) HB1.out)
             have cf63 := Hop.at_ext hz8 hd
             go_wp2_with fail
             go_ret
             exact ⟨ret_bool HE.out.symm, (((((hx0.trans hz1).trans hx).trans hx1).trans hz7).trans hz8)⟩
            ·
             have c2' : (R.2 != s.hops[j + 1].ing) = false := by simp only [bne, c2]; rfl
             have HE := Lib.hid (allTo_snoc HK.out (show wfJoin t s.hops (j + 1) = true by rw [HJ.out, c1, c2]; rfl))
             try clear cf53
             try clear cf54
             try clear cf55
             have cf64 := blk2 (Ext.block ((((hz1.trans hx).trans hx1).trans hz7).trans hz8) HB0.out.1)
             have cf65 := blk3 (Ext.block ((((hz1.trans hx).trans hx1).trans hz7).trans hz8) HB0.out.2)
             have cf66 := blk5 (Ext.block (hz7.trans hz8) HB1.out)
             have cf67 := Hop.at_ext hz8 hd
             go_wp2_with fail
             go_roundg (gk - 1)
             case measure => have h1 := HGK.out; omega
             case rel => exact ⟨j + 1 + 1, by have h1 := HGK.out; omega, congrArg (Value.int .i64) (by first | omega | (unfold wrap64; omega)), HF2, HE, (((hx.trans hx1).trans hz7).trans hz8)⟩
       ·
        have cf68 := blk2 (Ext.block ((hz1.trans hx).trans hx1) HB0.out.1)
        have cf69 := blk3 (Ext.block ((hz1.trans hx).trans hx1) HB0.out.2)
        have cf70 := blk5 HB1.out
        go_wp2_with fail
        refine wp_region_ext (by kernel_rfl) (by kernel_rfl) ?_
        have q0 := ExtW.cell (cf68.1)
        have q1 := ExtW.cell (cf68.2)
        have q2 := ExtW.cell (cf69.1)
        have q3 := ExtW.cell (cf69.2.1)
        have q4 := ExtW.cell (cf69.2.2)
        have q5 := ExtW.cell (cf70.1)
        have q6 := ExtW.cell (cf70.2.1)
        have q7 := ExtW.cell (cf70.2.2.1)
        have q8 := ExtW.cell (cf70.2.2.2.1)
        have q9 := ExtW.cell (cf70.2.2.2.2)
        repeat (first | go_big_quiet_step (((first | (go_at_call 221; exact Calls.ext_of (s_ValidHop s.hops[k] _)) | (go_at_call 222; exact Calls.ext_of (s_l5Realm t _ _ s.hops[k].asn _ ((ha.ext (((hx0.trans hz1).trans hx).trans hx1)).ext (ExtW.h _)))) | (go_at_call 179; exact Calls.ext_same (s_l9Has (li.take k) _ s.hops[k].asn _ (RdS.pre ((rl.ext (hx.trans hx1)).ext (ExtW.h _)) k hkli)))))) | quiet_step (((first | (go_at_call 221; exact Calls.ext_of (s_ValidHop s.hops[k] _)) | (go_at_call 222; exact Calls.ext_of (s_l5Realm t _ _ s.hops[k].asn _ ((ha.ext (((hx0.trans hz1).trans hx).trans hx1)).ext (ExtW.h _)))) | (go_at_call 179; exact Calls.ext_same (s_l9Has (li.take k) _ s.hops[k].asn _ (RdS.pre ((rl.ext (hx.trans hx1)).ext (ExtW.h _)) k hkli)))))))
        refine wpQuiet_nil ?_
        intro w9 hw9
        have hz9 := ExtW.out hw9
        clear hw9 q0 q1 q2 q3 q4 q5 q6 q7 q8 q9
        have HE := Lib.hid (wf_no1 (s := s) (ok_no2 (t := t) hlt (by rw [HFA.out]; simp [d1, d2, d3])))
        try clear cf68
        try clear cf69
        try clear cf70
        have cf71 := blk2 (Ext.block (((hz1.trans hx).trans hx1).trans hz9) HB0.out.1)
        have cf72 := blk3 (Ext.block (((hz1.trans hx).trans hx1).trans hz9) HB0.out.2)
        have cf73 := blk5 (Ext.block hz9 HB1.out)
        go_wp2_with fail
        go_ret
        exact ⟨ret_bool HE.out.symm, ((((hx0.trans hz1).trans hx).trans hx1).trans hz9)⟩
    ·
     obtain rfl : k = s.hops.length := by omega
     have HE := Lib.hid (wf_yes (ok_yes B1.out HF.out) h0 B2.out HK.out)
     try clear cf3
     try clear cf4
     try clear cf5
     have cf74 := blk2 (Ext.block (hz1.trans hx) HB0.out.1)
     have cf75 := blk3 (Ext.block (hz1.trans hx) HB0.out.2)
     go_wp2_with fail
     go_ret
     exact ⟨ret_bool HE.out.symm, ((hx0.trans hz1).trans hx)⟩
end
section
open Go.ChangeShapes Go.WideShapes Go.ChangeAt Go.RowKit Go.Deep
def kindGo (t : Topo) : Int → List Hop → Int
 | kd, [] => if kd == 1 then 1 else if kd == 2 then 2 else 0
 | kd, h :: l => if h.eg == 0 then kindGo t kd l else if (kd != 0) && (ifKind t h.asn h.eg != kd) then 0 else kindGo t (ifKind t h.asn h.eg) l
def segKind (t : Topo) (s : Seg) : Int := if wfSeg t s && (asAt t (hopAt s.hops 0).asn).core then kindGo t 0 s.hops else 0
theorem wf_facts {t : Topo} {s : Seg} (h : wfSeg t s = true) : 0 < s.hops.length ∧ isAs t (hopAt s.hops 0).asn = true := by
 unfold wfSeg at h
 simp only [Bool.and_eq_true] at h
 have hl := wf_len' h.1.1
 refine ⟨by omega, ?_⟩
 have h1 := h.1.1
 unfold hopsOk at h1
 simp only [Bool.and_eq_true] at h1
 have h2 := allTo_true.1 h1.2 0 (by omega)
 unfold hopFresh at h2
 simp only [Bool.and_eq_true] at h2
 exact h2.1.2
theorem kind_skip {t : Topo} {l : List Hop} {k : Nat} {kd : Int} (hk : k < l.length) (h : (l[k].eg == 0) = true) : kindGo t kd (l.drop k) = kindGo t kd (l.drop (k + 1)) := by
 rw [List.drop_eq_getElem_cons hk]; conv => lhs; unfold kindGo
 rw [h]; rfl
theorem kind_bad {t : Topo} {l : List Hop} {k : Nat} {kd : Int} (hk : k < l.length) (h : (l[k].eg == 0) = false) (h1 : (kd == 0) = false) (h2 : (ifKind t l[k].asn l[k].eg == kd) = false) : kindGo t kd (l.drop k) = 0 := by
 rw [List.drop_eq_getElem_cons hk]; unfold kindGo
 simp [h, bne, h1, h2]
theorem kind_go {t : Topo} {l : List Hop} {k : Nat} {kd : Int} (hk : k < l.length) (h : (l[k].eg == 0) = false) (h1 : (kd == 0) = true ∨ (ifKind t l[k].asn l[k].eg == kd) = true) : kindGo t kd (l.drop k) = kindGo t (ifKind t l[k].asn l[k].eg) (l.drop (k + 1)) := by
 rw [List.drop_eq_getElem_cons hk]; conv => lhs; unfold kindGo
 rcases h1 with h1 | h1 <;> simp [h, bne, h1]
set_option maxRecDepth 100000 in
set_option maxHeartbeats 1000000 in
theorem s_FirstAS (s : Seg) (v : Value) (w : World) (r : RdS Hop.rep w v s.hops) (h0 : 0 < s.hops.length) (q : Int) (hq : s.hops[0].asn = q) :
  Calls Tryz.prog 230 #[.agg #[.int .i64 s.ts, .int .i64 s.beta, v]] w fun e w' => e = .returned (.int .i64 (q)) ∧ Ext w w' := by
 obtain ⟨o, cap, rfl, hsm⟩ := r.shape
 have hx0 : Ext w (w.alloc (.cells #[.int .i64 s.ts, .int .i64 s.beta, .slice o s.hops.length cap] 216)) := (Ext.refl _).alloc _
 have HB0 := Lib.hid (blk_new w (.cells #[.int .i64 s.ts, .int .i64 s.beta, .slice o s.hops.length cap] 216))
 go_enter Tryz.func230, Tryz.ntmps230
 obtain ⟨b, off, rfl, hc⟩ := Hop.at (r.ext hx0) 0 h0
 simp only [Nat.zero_mul, Nat.add_zero] at hc
 have h1 : ((s.hops.length : Int) == 0) = false := by simp; exact List.ne_nil_of_length_pos h0
 have h2 : (0 : Int) < (s.hops.length : Int) := by omega
 have HE := Lib.hid hq
 clear hq
 have cf1 := blk3 HB0.out
 go_wp2_with fail
 go_ret
 exact ⟨ret_int HE.out, hx0⟩
set_option maxRecDepth 100000 in
set_option maxHeartbeats 8000000 in
theorem s_SegmentKind (t : Topo) (v1 v2 : Value) (s : Seg) (v : Value)  (w : World) (ha : RdS ASd.rep w v1 t.ases) (hk : RdS Lnk.rep w v2 t.links) (r : RdS Hop.rep w v s.hops) (hl : s.hops.length ≤ 1048576) :
  Calls Tryz.prog 286 #[.agg #[v1, v2], .agg #[.int .i64 s.ts, .int .i64 s.beta, v]] w fun e w' => e = .returned (.int .i64 (segKind t s)) ∧ Ext w w' := by
 obtain ⟨o, cap, rfl, hsm⟩ := r.shape
 have hx0 := ext2 w (.cells #[v1, v2] 33) (.cells #[.int .i64 s.ts, .int .i64 s.beta, .slice o s.hops.length cap] 216)
 have HB0 := Lib.hid (al2 w (.cells #[v1, v2] 33) (.cells #[.int .i64 s.ts, .int .i64 s.beta, .slice o s.hops.length cap] 216))
 go_enter Tryz.func286, Tryz.ntmps286
 obtain ⟨W0, hW0⟩ : ∃ W0 : World, W0 = ((w.alloc (.cells #[v1, v2] 33)).alloc (.cells #[.int .i64 s.ts, .int .i64 s.beta, .slice o s.hops.length cap] 216)) := ⟨_, rfl⟩
 rw [← hW0] at hx0 HB0
 obtain ⟨oA, cA, rfl, _⟩ := ha.shape
 have cf1 := blk2 HB0.out.1
 have cf2 := blk3 HB0.out.2
 go_wp2_with fail
 rw [← hW0]
 clear hW0
 cases bb : wfSeg t s
 ·
  have HE := Lib.hid (show segKind t s = 0 by unfold segKind; rw [bb]; rfl)
  have cf3 := blk2 HB0.out.1
  have cf4 := blk3 HB0.out.2
  go_wp2_with fail
  refine wp_region_ext (by kernel_rfl) (by kernel_rfl) ?_
  have q0 := ExtW.cell (cf3.1)
  have q1 := ExtW.cell (cf3.2)
  have q2 := ExtW.cell (cf4.1)
  have q3 := ExtW.cell (cf4.2.1)
  have q4 := ExtW.cell (cf4.2.2)
  repeat (first | go_big_quiet_step (((first | (go_at_call 300; exact Calls.ext_of (s_WellFormed t _ _ s _ _ ((ha.ext hx0).ext (ExtW.h _)) ((hk.ext hx0).ext (ExtW.h _)) ((r.ext hx0).ext (ExtW.h _)) hl))))) | quiet_step (((first | (go_at_call 300; exact Calls.ext_of (s_WellFormed t _ _ s _ _ ((ha.ext hx0).ext (ExtW.h _)) ((hk.ext hx0).ext (ExtW.h _)) ((r.ext hx0).ext (ExtW.h _)) hl))))))
  refine wpQuiet_nil ?_
  intro w1 hw1
  have hz1 := ExtW.out hw1
  clear hw1 q0 q1 q2 q3 q4
  go_wp2_with fail
  go_ret
  exact ⟨ret_int HE.out.symm, (hx0.trans hz1)⟩
 ·
  obtain ⟨h0, hA⟩ := wf_facts bb
  obtain ⟨b, off, rfl, hc0⟩ := Hop.at (r.ext hx0) 0 h0
  have h00 : (0 : Int) < (s.hops.length : Int) := by omega
  simp only [Nat.zero_mul, Nat.add_zero] at hc0
  have hx00 : hopAt s.hops 0 = s.hops[0] := hopAt_at h0
  rw [hx00] at hA
  have HX0 := Lib.hid hx00
  clear hx00
  obtain ⟨hp1, hp2⟩ := isAs_lt hA
  have hp3 : s.hops[0].asn < t.ases.length := by omega
  obtain ⟨bA, offA, rfl, hcA⟩ := ASd.at (ha.ext hx0) s.hops[0].asn.toNat hp2
  have HC := Lib.hid (show (asAt t s.hops[0].asn).core = t.ases[s.hops[0].asn.toNat].core by rw [asAt_at hp1 hp2])
  cases bc : t.ases[s.hops[0].asn.toNat].core
  ·
   have HE := Lib.hid (show segKind t s = 0 by unfold segKind; rw [HX0.out, HC.out, bc, bb]; rfl)
   try clear cf1
   try clear cf2
   have cf5 := blk2 HB0.out.1
   have cf6 := blk3 HB0.out.2
   go_wp2_with fail
   refine wp_region_ext (by kernel_rfl) (by kernel_rfl) ?_
   have q0 := ExtW.cell (cf5.1)
   have q1 := ExtW.cell (cf5.2)
   have q2 := ExtW.cell (cf6.1)
   have q3 := ExtW.cell (cf6.2.1)
   have q4 := ExtW.cell (cf6.2.2)
   have q5 := ExtW.cell (hc0.1)
   have q6 := ExtW.cell (hc0.2.1)
   have q7 := ExtW.cell (hc0.2.2.1)
   have q8 := ExtW.cell (hc0.2.2.2.1)
   have q9 := ExtW.cell (hc0.2.2.2.2)
   have q10 := ExtW.cell (hcA.1)
   have q11 := ExtW.cell (hcA.2.1)
   have q12 := ExtW.cell (hcA.2.2)
   repeat (first | go_big_quiet_step (((first | (go_at_call 300; exact Calls.ext_of (s_WellFormed t _ _ s _ _ ((ha.ext hx0).ext (ExtW.h _)) ((hk.ext hx0).ext (ExtW.h _)) ((r.ext hx0).ext (ExtW.h _)) hl)) | (go_at_call 230; exact Calls.ext_of (s_FirstAS s _ _ ((r.ext hx0).ext (ExtW.h _)) h0 _ rfl))))) | quiet_step (((first | (go_at_call 300; exact Calls.ext_of (s_WellFormed t _ _ s _ _ ((ha.ext hx0).ext (ExtW.h _)) ((hk.ext hx0).ext (ExtW.h _)) ((r.ext hx0).ext (ExtW.h _)) hl)) | (go_at_call 230; exact Calls.ext_of (s_FirstAS s _ _ ((r.ext hx0).ext (ExtW.h _)) h0 _ rfl))))))
   refine wpQuiet_nil ?_
   intro w2 hw2
   have hz2 := ExtW.out hw2
   clear hw2 q0 q1 q2 q3 q4 q5 q6 q7 q8 q9 q10 q11 q12
   go_wp2_with fail
   go_ret
   exact ⟨ret_int HE.out.symm, (hx0.trans hz2)⟩
  ·
   have HE := Lib.hid (show segKind t s = kindGo t 0 (s.hops.drop 0) by unfold segKind; rw [HX0.out, HC.out, bc, bb]; rfl)
   try clear cf1
   try clear cf2
   have cf7 := blk2 HB0.out.1
   have cf8 := blk3 HB0.out.2
   go_wp2_with fail
   refine wp_region_ext (by kernel_rfl) (by kernel_rfl) ?_
   have q0 := ExtW.cell (cf7.1)
   have q1 := ExtW.cell (cf7.2)
   have q2 := ExtW.cell (cf8.1)
   have q3 := ExtW.cell (cf8.2.1)
   have q4 := ExtW.cell (cf8.2.2)
   have q5 := ExtW.cell (hc0.1)
   have q6 := ExtW.cell (hc0.2.1)
   have q7 := ExtW.cell (hc0.2.2.1)
   have q8 := ExtW.cell (hc0.2.2.2.1)
   have q9 := ExtW.cell (hc0.2.2.2.2)
   have q10 := ExtW.cell (hcA.1)
   have q11 := ExtW.cell (hcA.2.1)
   have q12 := ExtW.cell (hcA.2.2)
   repeat (first | go_big_quiet_step (((first | (go_at_call 300; exact Calls.ext_of (s_WellFormed t _ _ s _ _ ((ha.ext hx0).ext (ExtW.h _)) ((hk.ext hx0).ext (ExtW.h _)) ((r.ext hx0).ext (ExtW.h _)) hl)) | (go_at_call 230; exact Calls.ext_of (s_FirstAS s _ _ ((r.ext hx0).ext (ExtW.h _)) h0 _ rfl))))) | quiet_step (((first | (go_at_call 300; exact Calls.ext_of (s_WellFormed t _ _ s _ _ ((ha.ext hx0).ext (ExtW.h _)) ((hk.ext hx0).ext (ExtW.h _)) ((r.ext hx0).ext (ExtW.h _)) hl)) | (go_at_call 230; exact Calls.ext_of (s_FirstAS s _ _ ((r.ext hx0).ext (ExtW.h _)) h0 _ rfl))))))
   refine wpQuiet_nil ?_
   intro w3 hw3
   have hz3 := ExtW.out hw3
   clear hw3 q0 q1 q2 q3 q4 q5 q6 q7 q8 q9 q10 q11 q12
   try clear cf7
   try clear cf8
   have cf9 := blk2 (Ext.block hz3 HB0.out.1)
   have cf10 := blk3 (Ext.block hz3 HB0.out.2)
   go_wp2_with fail
   clear hc0 hcA bc bb hA
   go_loopg [5, 6] s.hops.length (fun gk kd i wr => ∃ (k : Nat) (n : Int), gk + k = s.hops.length ∧ kd = .int .i64 n ∧ i = .int .i64 k ∧ Hid (segKind t s = kindGo t n (s.hops.drop k)) ∧ Ext w3 wr)
   case atStart => exact ⟨0, 0, by omega, rfl, rfl, HE, Ext.refl _⟩
   case round =>
    obtain ⟨k, n, hgk, rfl, rfl, HK, hx⟩ := hrel
    have HGK := Lib.hid hgk
    clear hgk
    have hkl : k ≤ s.hops.length := by have h1 := HGK.out; omega
    by_cases hlt : k < s.hops.length
    ·
     obtain ⟨b', off', hbo, hc⟩ := Hop.at (r.ext ((hx0.trans hz3).trans hx)) k hlt
     cases hbo
     have h4 : (k : Int) < (s.hops.length : Int) := by omega
     cases b5 : (s.hops[k].eg == 0)
     ·
      try clear cf9
      try clear cf10
      have cf11 := blk2 (Ext.block (hz3.trans hx) HB0.out.1)
      have cf12 := blk3 (Ext.block (hz3.trans hx) HB0.out.2)
      go_upto_region 8 with (fail)
      go_wp2_with fail
      refine wp_region_ext (by kernel_rfl) (by kernel_rfl) ?_
      have q0 := ExtW.cell (cf11.1)
      have q1 := ExtW.cell (cf11.2)
      have q2 := ExtW.cell (cf12.1)
      have q3 := ExtW.cell (cf12.2.1)
      have q4 := ExtW.cell (cf12.2.2)
      have q5 := ExtW.cell (hc.1)
      have q6 := ExtW.cell (hc.2.1)
      have q7 := ExtW.cell (hc.2.2.1)
      have q8 := ExtW.cell (hc.2.2.2.1)
      have q9 := ExtW.cell (hc.2.2.2.2)
      repeat (first | go_big_quiet_step (((first | (go_at_call 249; exact Calls.ext_of (s_InterfaceKind t _ _ s.hops[k].asn s.hops[k].eg _ ((hk.ext ((hx0.trans hz3).trans hx)).ext (ExtW.h _))))))) | quiet_step (((first | (go_at_call 249; exact Calls.ext_of (s_InterfaceKind t _ _ s.hops[k].asn s.hops[k].eg _ ((hk.ext ((hx0.trans hz3).trans hx)).ext (ExtW.h _))))))))
      refine wpQuiet_nil ?_
      intro w4 hw4
      have hz4 := ExtW.out hw4
      clear hw4 q0 q1 q2 q3 q4 q5 q6 q7 q8 q9
      generalize hik : ifKind t s.hops[k].asn s.hops[k].eg = ik
      have HIK := Lib.hid hik
      clear hik
      cases k0 : (n == 0)
      ·
       have k0' : (n != 0) = true := by simp only [bne, k0]; rfl
       cases k1 : (ik == n)
       ·
        have k1' : (ik != n) = true := by simp only [bne, k1]; rfl
        have HE2 := Lib.hid (HK.out.trans (kind_bad hlt b5 k0 (by rw [HIK.out]; exact k1)))
        try clear cf11
        try clear cf12
        have cf13 := blk2 (Ext.block ((hz3.trans hx).trans hz4) HB0.out.1)
        have cf14 := blk3 (Ext.block ((hz3.trans hx).trans hz4) HB0.out.2)
        have cf15 := Hop.at_ext hz4 hc
        go_wp2_with fail
        go_ret
        exact ⟨ret_int HE2.out.symm, (((hx0.trans hz3).trans hx).trans hz4)⟩
       ·
        have k1' : (ik != n) = false := by simp only [bne, k1]; rfl
        have HE2 := Lib.hid (HK.out.trans (kind_go hlt b5 (.inr (by rw [HIK.out]; exact k1))))
        rw [HIK.out] at HE2
        try clear cf11
        try clear cf12
        have cf16 := blk2 (Ext.block ((hz3.trans hx).trans hz4) HB0.out.1)
        have cf17 := blk3 (Ext.block ((hz3.trans hx).trans hz4) HB0.out.2)
        have cf18 := Hop.at_ext hz4 hc
        go_wp2_with fail
        go_roundg (gk - 1)
        case measure => have h1 := HGK.out; omega
        case rel => exact ⟨k + 1, _, by have h1 := HGK.out; omega, rfl, congrArg (Value.int .i64) (by first | omega | (unfold wrap64; omega)), HE2, (hx.trans hz4)⟩
      ·
       have k0' : (n != 0) = false := by simp only [bne, k0]; rfl
       have HE2 := Lib.hid (HK.out.trans (kind_go hlt b5 (.inl k0)))
       rw [HIK.out] at HE2
       try clear cf11
       try clear cf12
       have cf19 := blk2 (Ext.block ((hz3.trans hx).trans hz4) HB0.out.1)
       have cf20 := blk3 (Ext.block ((hz3.trans hx).trans hz4) HB0.out.2)
       have cf21 := Hop.at_ext hz4 hc
       go_wp2_with fail
       go_roundg (gk - 1)
       case measure => have h1 := HGK.out; omega
       case rel => exact ⟨k + 1, _, by have h1 := HGK.out; omega, rfl, congrArg (Value.int .i64) (by first | omega | (unfold wrap64; omega)), HE2, (hx.trans hz4)⟩
     ·
      have HE2 := Lib.hid (HK.out.trans (kind_skip (t := t) hlt b5))
      try clear cf9
      try clear cf10
      have cf22 := blk2 (Ext.block (hz3.trans hx) HB0.out.1)
      have cf23 := blk3 (Ext.block (hz3.trans hx) HB0.out.2)
      go_wp2_with fail
      go_roundg (gk - 1)
      case measure => have h1 := HGK.out; omega
      case rel => exact ⟨k + 1, _, by have h1 := HGK.out; omega, rfl, congrArg (Value.int .i64) (by first | omega | (unfold wrap64; omega)), HE2, hx⟩
    ·
     obtain rfl : k = s.hops.length := by omega
     have HE2 : Hid (segKind t s = if n == 1 then 1 else if n == 2 then 2 else 0) := Lib.hid (by rw [HK.out, List.drop_length]; rfl)
     cases k1 : (n == 1)
     ·
      cases k2 : (n == 2)
      ·
       try clear cf9
       try clear cf10
       have cf24 := blk2 (Ext.block (hz3.trans hx) HB0.out.1)
       have cf25 := blk3 (Ext.block (hz3.trans hx) HB0.out.2)
       go_wp2_with fail
       go_ret
       exact ⟨ret_int (by rw [HE2.out, k1, k2]; rfl), ((hx0.trans hz3).trans hx)⟩
      ·
       try clear cf9
       try clear cf10
       have cf26 := blk2 (Ext.block (hz3.trans hx) HB0.out.1)
       have cf27 := blk3 (Ext.block (hz3.trans hx) HB0.out.2)
       go_wp2_with fail
       go_ret
       exact ⟨ret_int (by rw [HE2.out, k1, k2]; rfl), ((hx0.trans hz3).trans hx)⟩
     ·
      try clear cf9
      try clear cf10
      have cf28 := blk2 (Ext.block (hz3.trans hx) HB0.out.1)
      have cf29 := blk3 (Ext.block (hz3.trans hx) HB0.out.2)
      go_wp2_with fail
      go_ret
      exact ⟨ret_int (by rw [HE2.out, k1]; rfl), ((hx0.trans hz3).trans hx)⟩
end
end Go.Proofs.YtikbeiafobnblaaGreat
