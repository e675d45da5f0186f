/- What these laws need: FnFinishes: Contracts of the kinds of segments, and of valid and usable ones, program and reference. Contracts of valid and usable segments, of expiries and of codes struck out, program and reference. A terminated segment is valid, and nobody can extend it. -/
import Derived.Test.YtcpfmhgfaliemaaKN18
namespace Go.Proofs.Ytcpfmhgfaliemaa
section
open Go.ChangeShapes Go.WideShapes Go.ChangeAt Go.RowKit Go.Deep
def kindGo (t : Topo) : Int → List Hop → Int
 | kd, [] => if kd == 1 then 1 else if kd == 2 then 2 else 0
 | kd, h :: l => if h.eg == 0 then kindGo t kd l else if (kd != 0) && (ifKind t h.asn h.eg != kd) then 0 else kindGo t (ifKind t h.asn h.eg) l
def segKind (t : Topo) (s : Seg) : Int := if wfSeg t s && (asAt t (hopAt s.hops 0).asn).core then kindGo t 0 s.hops else 0
def validSeg (t : Topo) (s : Seg) : Bool := wfSeg t s && decide (firstBad t s < 0) && (segKind t s != 0) && inR s.ts 0 1000000 && isRes s.beta
def segUsable (t : Topo) (s : Seg) (now : Int) : Bool := validSeg t s && isTerm s && decide (s.ts ≤ now) && decide (now ≤ leastExp s.hops)
theorem wf_facts {t : Topo} {s : Seg} (h : wfSeg t s = true) : 0 < s.hops.length ∧ isAs t (hopAt s.hops 0).asn = true := by
 unfold wfSeg at h
 simp only [Bool.and_eq_true] at h
 have hl := wf_len' h.1.1
 refine ⟨by omega, ?_⟩
 have h1 := h.1.1
 unfold hopsOk at h1
 simp only [Bool.and_eq_true] at h1
 have h2 := allTo_true.1 h1.2 0 (by omega)
 unfold hopFresh at h2
 simp only [Bool.and_eq_true] at h2
 exact h2.1.2
theorem kind_skip {t : Topo} {l : List Hop} {k : Nat} {kd : Int} (hk : k < l.length) (h : (l[k].eg == 0) = true) : kindGo t kd (l.drop k) = kindGo t kd (l.drop (k + 1)) := by
 rw [List.drop_eq_getElem_cons hk]; conv => lhs; unfold kindGo
 rw [h]; rfl
theorem kind_bad {t : Topo} {l : List Hop} {k : Nat} {kd : Int} (hk : k < l.length) (h : (l[k].eg == 0) = false) (h1 : (kd == 0) = false) (h2 : (ifKind t l[k].asn l[k].eg == kd) = false) : kindGo t kd (l.drop k) = 0 := by
 rw [List.drop_eq_getElem_cons hk]; unfold kindGo
 simp [h, bne, h1, h2]
theorem kind_go {t : Topo} {l : List Hop} {k : Nat} {kd : Int} (hk : k < l.length) (h : (l[k].eg == 0) = false) (h1 : (kd == 0) = true ∨ (ifKind t l[k].asn l[k].eg == kd) = true) : kindGo t kd (l.drop k) = kindGo t (ifKind t l[k].asn l[k].eg) (l.drop (k + 1)) := by
 rw [List.drop_eq_getElem_cons hk]; conv => lhs; unfold kindGo
 rcases h1 with h1 | h1 <;> simp [h, bne, h1]
set_option maxRecDepth 100000 in
set_option maxHeartbeats 1000000 in
theorem i_isCore (t : Topo) (v1 v2 : Value) (q : Int) (w : World) (ha : RdS ASd.rep w v1 t.ases) :
  Calls Try.prog 103 #[.agg #[v1, v2], .int .i64 q] w fun e w' => e = .returned (.bool (isAs t q && (asAt t q).core)) ∧ Ext w w' := by
 obtain ⟨o, cap, rfl, hsm⟩ := ha.shape
 have hx0 : Ext w (w.alloc (.cells #[.slice o t.ases.length cap, v2] 41)) := (Ext.refl _).alloc _
 have HB0 := Lib.hid (blk_new w (.cells #[.slice o t.ases.length cap, v2] 41))
 go_enter Try.func103, Try.ntmps103
 have cf1 := blk2 HB0.out
 go_wp2_with fail
 refine (i_isAS t _ v2 q _ (ha.ext hx0)).mono ?_
 rintro e w1 ⟨rfl, hz1⟩
 cases b : isAs t q
 ·
  try clear cf1
  have cf2 := blk2 (Ext.block hz1 HB0.out)
  go_wp2_with fail
  go_ret
  exact ⟨ret_bool (by rw [b]; rfl), (hx0.trans hz1)⟩
 ·
  obtain ⟨h0, h1⟩ := isAs_lt b
  obtain ⟨n, rfl⟩ := Int.eq_ofNat_of_zero_le h0
  have hn : n < t.ases.length := by simpa using h1
  have hn2 : (n : Int) < t.ases.length := by omega
  obtain ⟨b1, off, rfl, hc⟩ := ASd.at (ha.ext (hx0.trans hz1)) n hn
  have HE := Lib.hid (show (asAt t n).core = t.ases[n].core by rw [asAt_at h0 h1]; rfl)
  try clear cf1
  have cf3 := blk2 (Ext.block hz1 HB0.out)
  go_wp2_with fail
  go_ret
  exact ⟨ret_bool (by rw [HE.out, b]; rfl), (hx0.trans hz1)⟩
set_option maxRecDepth 100000 in
set_option maxHeartbeats 1000000 in
theorem s_FirstAS (s : Seg) (v : Value) (w : World) (r : RdS Hop.rep w v s.hops) (h0 : 0 < s.hops.length) (q : Int) (hq : s.hops[0].asn = q) :
  Calls Try.prog 140 #[.agg #[.int .i64 s.ts, .int .i64 s.beta, v]] w fun e w' => e = .returned (.int .i64 (q)) ∧ Ext w w' := by
 obtain ⟨o, cap, rfl, hsm⟩ := r.shape
 have hx0 : Ext w (w.alloc (.cells #[.int .i64 s.ts, .int .i64 s.beta, .slice o s.hops.length cap] 60)) := (Ext.refl _).alloc _
 have HB0 := Lib.hid (blk_new w (.cells #[.int .i64 s.ts, .int .i64 s.beta, .slice o s.hops.length cap] 60))
 go_enter Try.func140, Try.ntmps140
 obtain ⟨b, off, rfl, hc⟩ := Hop.at (r.ext hx0) 0 h0
 simp only [Nat.zero_mul, Nat.add_zero] at hc
 have h1 : ((s.hops.length : Int) == 0) = false := by simp; exact List.ne_nil_of_length_pos h0
 have h2 : (0 : Int) < (s.hops.length : Int) := by omega
 have HE := Lib.hid hq
 clear hq
 have cf1 := blk3 HB0.out
 go_wp2_with fail
 go_ret
 exact ⟨ret_int HE.out, hx0⟩
set_option maxRecDepth 100000 in
set_option maxHeartbeats 8000000 in
theorem i_SegmentKind (t : Topo) (v1 v2 : Value) (s : Seg) (v : Value)  (w : World) (ha : RdS ASd.rep w v1 t.ases) (hk : RdS Lnk.rep w v2 t.links) (r : RdS Hop.rep w v s.hops) (hl : s.hops.length ≤ 1048576) :
  Calls Try.prog 62 #[.agg #[v1, v2], .agg #[.int .i64 s.ts, .int .i64 s.beta, v]] w fun e w' => e = .returned (.int .i64 (segKind t s)) ∧ Ext w w' := by
 obtain ⟨o, cap, rfl, hsm⟩ := r.shape
 have hx0 := ext2 w (.cells #[v1, v2] 41) (.cells #[.int .i64 s.ts, .int .i64 s.beta, .slice o s.hops.length cap] 60)
 have HB0 := Lib.hid (al2 w (.cells #[v1, v2] 41) (.cells #[.int .i64 s.ts, .int .i64 s.beta, .slice o s.hops.length cap] 60))
 go_enter Try.func62, Try.ntmps62
 obtain ⟨W0, hW0⟩ : ∃ W0 : World, W0 = ((w.alloc (.cells #[v1, v2] 41)).alloc (.cells #[.int .i64 s.ts, .int .i64 s.beta, .slice o s.hops.length cap] 60)) := ⟨_, rfl⟩
 rw [← hW0] at hx0 HB0
 obtain ⟨oA, cA, rfl, _⟩ := ha.shape
 have cf1 := blk2 HB0.out.1
 have cf2 := blk3 HB0.out.2
 go_wp2_with fail
 rw [← hW0]
 clear hW0
 cases bb : wfSeg t s
 ·
  have HE := Lib.hid (show segKind t s = 0 by unfold segKind; rw [bb]; rfl)
  have cf3 := blk2 HB0.out.1
  have cf4 := blk3 HB0.out.2
  go_wp2_with fail
  refine wp_region_ext (by kernel_rfl) (by kernel_rfl) ?_
  have q0 := ExtW.cell (cf3.1)
  have q1 := ExtW.cell (cf3.2)
  have q2 := ExtW.cell (cf4.1)
  have q3 := ExtW.cell (cf4.2.1)
  have q4 := ExtW.cell (cf4.2.2)
  repeat (first | go_big_quiet_step (((first | (go_at_call 60; exact Calls.ext_of (i_WellFormed t _ _ s _ _ ((ha.ext hx0).ext (ExtW.h _)) ((hk.ext hx0).ext (ExtW.h _)) ((r.ext hx0).ext (ExtW.h _)) hl))))) | quiet_step (((first | (go_at_call 60; exact Calls.ext_of (i_WellFormed t _ _ s _ _ ((ha.ext hx0).ext (ExtW.h _)) ((hk.ext hx0).ext (ExtW.h _)) ((r.ext hx0).ext (ExtW.h _)) hl))))))
  refine wpQuiet_nil ?_
  intro w1 hw1
  have hz1 := ExtW.out hw1
  clear hw1 q0 q1 q2 q3 q4
  go_wp2_with fail
  go_ret
  exact ⟨ret_int HE.out.symm, (hx0.trans hz1)⟩
 ·
  obtain ⟨h0, hA⟩ := wf_facts bb
  obtain ⟨b, off, rfl, hc0⟩ := Hop.at (r.ext hx0) 0 h0
  have h00 : (0 : Int) < (s.hops.length : Int) := by omega
  simp only [Nat.zero_mul, Nat.add_zero] at hc0
  have hx00 : hopAt s.hops 0 = s.hops[0] := hopAt_at h0
  rw [hx00] at hA
  have HX0 := Lib.hid hx00
  clear hx00
  obtain ⟨hp1, hp2⟩ := isAs_lt hA
  have hp3 : s.hops[0].asn < t.ases.length := by omega
  obtain ⟨bA, offA, rfl, hcA⟩ := ASd.at (ha.ext hx0) s.hops[0].asn.toNat hp2
  have HC := Lib.hid (show (asAt t s.hops[0].asn).core = t.ases[s.hops[0].asn.toNat].core by rw [asAt_at hp1 hp2])
  cases bc : t.ases[s.hops[0].asn.toNat].core
  ·
   have HE := Lib.hid (show segKind t s = 0 by unfold segKind; rw [HX0.out, HC.out, bc, bb]; rfl)
   have hcz : (asAt t s.hops[0].asn).core = false := by rw [HC.out, bc]
   try clear cf1
   try clear cf2
   have cf5 := blk2 HB0.out.1
   have cf6 := blk3 HB0.out.2
   go_wp2_with fail
   refine wp_region_ext (by kernel_rfl) (by kernel_rfl) ?_
   have q0 := ExtW.cell (cf5.1)
   have q1 := ExtW.cell (cf5.2)
   have q2 := ExtW.cell (cf6.1)
   have q3 := ExtW.cell (cf6.2.1)
   have q4 := ExtW.cell (cf6.2.2)
   have q5 := ExtW.cell (hc0.1)
   have q6 := ExtW.cell (hc0.2.1)
   have q7 := ExtW.cell (hc0.2.2.1)
   have q8 := ExtW.cell (hc0.2.2.2.1)
   have q9 := ExtW.cell (hc0.2.2.2.2)
   have q10 := ExtW.cell (hcA.1)
   have q11 := ExtW.cell (hcA.2.1)
   have q12 := ExtW.cell (hcA.2.2)
   repeat (first | go_big_quiet_step (((first | (go_at_call 60; exact Calls.ext_of (i_WellFormed t _ _ s _ _ ((ha.ext hx0).ext (ExtW.h _)) ((hk.ext hx0).ext (ExtW.h _)) ((r.ext hx0).ext (ExtW.h _)) hl)) | (go_at_call 103; exact Calls.ext_of (i_isCore t _ _ s.hops[0].asn _ ((ha.ext hx0).ext (ExtW.h _))))))) | quiet_step (((first | (go_at_call 60; exact Calls.ext_of (i_WellFormed t _ _ s _ _ ((ha.ext hx0).ext (ExtW.h _)) ((hk.ext hx0).ext (ExtW.h _)) ((r.ext hx0).ext (ExtW.h _)) hl)) | (go_at_call 103; exact Calls.ext_of (i_isCore t _ _ s.hops[0].asn _ ((ha.ext hx0).ext (ExtW.h _))))))))
   refine wpQuiet_nil ?_
   intro w2 hw2
   have hz2 := ExtW.out hw2
   clear hw2 q0 q1 q2 q3 q4 q5 q6 q7 q8 q9 q10 q11 q12
   go_wp2_with fail
   go_ret
   exact ⟨ret_int HE.out.symm, (hx0.trans hz2)⟩
  ·
   have HE := Lib.hid (show segKind t s = kindGo t 0 (s.hops.drop 0) by unfold segKind; rw [HX0.out, HC.out, bc, bb]; rfl)
   have hcz : (asAt t s.hops[0].asn).core = true := by rw [HC.out, bc]
   try clear cf1
   try clear cf2
   have cf7 := blk2 HB0.out.1
   have cf8 := blk3 HB0.out.2
   go_wp2_with fail
   refine wp_region_ext (by kernel_rfl) (by kernel_rfl) ?_
   have q0 := ExtW.cell (cf7.1)
   have q1 := ExtW.cell (cf7.2)
   have q2 := ExtW.cell (cf8.1)
   have q3 := ExtW.cell (cf8.2.1)
   have q4 := ExtW.cell (cf8.2.2)
   have q5 := ExtW.cell (hc0.1)
   have q6 := ExtW.cell (hc0.2.1)
   have q7 := ExtW.cell (hc0.2.2.1)
   have q8 := ExtW.cell (hc0.2.2.2.1)
   have q9 := ExtW.cell (hc0.2.2.2.2)
   have q10 := ExtW.cell (hcA.1)
   have q11 := ExtW.cell (hcA.2.1)
   have q12 := ExtW.cell (hcA.2.2)
   repeat (first | go_big_quiet_step (((first | (go_at_call 60; exact Calls.ext_of (i_WellFormed t _ _ s _ _ ((ha.ext hx0).ext (ExtW.h _)) ((hk.ext hx0).ext (ExtW.h _)) ((r.ext hx0).ext (ExtW.h _)) hl)) | (go_at_call 103; exact Calls.ext_of (i_isCore t _ _ s.hops[0].asn _ ((ha.ext hx0).ext (ExtW.h _))))))) | quiet_step (((first | (go_at_call 60; exact Calls.ext_of (i_WellFormed t _ _ s _ _ ((ha.ext hx0).ext (ExtW.h _)) ((hk.ext hx0).ext (ExtW.h _)) ((r.ext hx0).ext (ExtW.h _)) hl)) | (go_at_call 103; exact Calls.ext_of (i_isCore t _ _ s.hops[0].asn _ ((ha.ext hx0).ext (ExtW.h _))))))))
   refine wpQuiet_nil ?_
   intro w3 hw3
   have hz3 := ExtW.out hw3
   clear hw3 q0 q1 q2 q3 q4 q5 q6 q7 q8 q9 q10 q11 q12
   try clear cf7
   try clear cf8
   have cf9 := blk2 (Ext.block hz3 HB0.out.1)
   have cf10 := blk3 (Ext.block hz3 HB0.out.2)
   go_wp2_with fail
   clear hc0 hcA bc bb hA hcz
   go_loopg [5, 26] s.hops.length (fun gk kd i wr => ∃ (k : Nat) (n : Int), gk + k = s.hops.length ∧ kd = .int .i64 n ∧ i = .int .i64 k ∧ Hid (segKind t s = kindGo t n (s.hops.drop k)) ∧ Ext w3 wr)
   case atStart => exact ⟨0, 0, by omega, rfl, rfl, HE, Ext.refl _⟩
   case round =>
    obtain ⟨k, n, hgk, rfl, rfl, HK, hx⟩ := hrel
    have HGK := Lib.hid hgk
    clear hgk
    have hkl : k ≤ s.hops.length := by have h1 := HGK.out; omega
    by_cases hlt : k < s.hops.length
    ·
     obtain ⟨b', off', hbo, hc⟩ := Hop.at (r.ext ((hx0.trans hz3).trans hx)) k hlt
     cases hbo
     have h4 : (k : Int) < (s.hops.length : Int) := by omega
     try clear cf9
     try clear cf10
     have cf11 := blk2 (Ext.block (hz3.trans hx) HB0.out.1)
     have cf12 := blk3 (Ext.block (hz3.trans hx) HB0.out.2)
     go_upto_region 7 with (fail)
     try clear cf11
     try clear cf12
     clear hc
     have hx1 : Ext wr (wr.alloc (.cells #[.int .i64 s.hops[k].asn, .int .i64 s.hops[k].ing, .int .i64 s.hops[k].eg, .int .i64 s.hops[k].exp, .int .i64 s.hops[k].mac] 108)) := (Ext.refl _).alloc _
     have HB1 := Lib.hid (blk_new wr (.cells #[.int .i64 s.hops[k].asn, .int .i64 s.hops[k].ing, .int .i64 s.hops[k].eg, .int .i64 s.hops[k].exp, .int .i64 s.hops[k].mac] 108))
     obtain ⟨wa, hwa⟩ : ∃ wa : World, wa = wr.alloc (.cells #[.int .i64 s.hops[k].asn, .int .i64 s.hops[k].ing, .int .i64 s.hops[k].eg, .int .i64 s.hops[k].exp, .int .i64 s.hops[k].mac] 108) := ⟨_, rfl⟩
     rw [← hwa]
     rw [← hwa] at hx1 HB1
     clear hwa
     cases b5 : (s.hops[k].eg == 0)
     ·
      have cf13 := blk2 (Ext.block ((hz3.trans hx).trans hx1) HB0.out.1)
      have cf14 := blk3 (Ext.block ((hz3.trans hx).trans hx1) HB0.out.2)
      have cf15 := blk5 HB1.out
      go_wp2_with fail
      refine (i_InterfaceKind t _ _ s.hops[k].asn s.hops[k].eg _ (hk.ext (((hx0.trans hz3).trans hx).trans hx1))).mono ?_
      rintro e w4 ⟨rfl, hz4⟩
      generalize hik : ifKind t s.hops[k].asn s.hops[k].eg = ik
      have HIK := Lib.hid hik
      clear hik
      cases k0 : (n == 0)
      ·
       have k0' : (n != 0) = true := by simp only [bne, k0]; rfl
       cases k1 : (ik == n)
       ·
        have k1' : (ik != n) = true := by simp only [bne, k1]; rfl
        have HE2 := Lib.hid (HK.out.trans (kind_bad hlt b5 k0 (by rw [HIK.out]; exact k1)))
        try clear cf13
        try clear cf14
        try clear cf15
        have cf16 := blk2 (Ext.block (((hz3.trans hx).trans hx1).trans hz4) HB0.out.1)
        have cf17 := blk3 (Ext.block (((hz3.trans hx).trans hx1).trans hz4) HB0.out.2)
        have cf18 := blk5 (Ext.block hz4 HB1.out)
        go_wp2_with fail
        go_ret
        exact ⟨ret_int HE2.out.symm, ((((hx0.trans hz3).trans hx).trans hx1).trans hz4)⟩
       ·
        have k1' : (ik != n) = false := by simp only [bne, k1]; rfl
        have HE2 := Lib.hid (HK.out.trans (kind_go hlt b5 (.inr (by rw [HIK.out]; exact k1))))
        rw [HIK.out] at HE2
        have hin : ik = n := by simpa using k1
        subst hin
        try clear cf13
        try clear cf14
        try clear cf15
        have cf19 := blk2 (Ext.block (((hz3.trans hx).trans hx1).trans hz4) HB0.out.1)
        have cf20 := blk3 (Ext.block (((hz3.trans hx).trans hx1).trans hz4) HB0.out.2)
        have cf21 := blk5 (Ext.block hz4 HB1.out)
        go_wp2_with fail
        go_roundg (gk - 1)
        case measure => have h1 := HGK.out; omega
        case rel => exact ⟨k + 1, _, by have h1 := HGK.out; omega, rfl, congrArg (Value.int .i64) (by first | omega | (unfold wrap64; omega)), HE2, ((hx.trans hx1).trans hz4)⟩
      ·
       have k0' : (n != 0) = false := by simp only [bne, k0]; rfl
       have HE2 := Lib.hid (HK.out.trans (kind_go hlt b5 (.inl k0)))
       rw [HIK.out] at HE2
       try clear cf13
       try clear cf14
       try clear cf15
       have cf22 := blk2 (Ext.block (((hz3.trans hx).trans hx1).trans hz4) HB0.out.1)
       have cf23 := blk3 (Ext.block (((hz3.trans hx).trans hx1).trans hz4) HB0.out.2)
       have cf24 := blk5 (Ext.block hz4 HB1.out)
       go_wp2_with fail
       go_roundg (gk - 1)
       case measure => have h1 := HGK.out; omega
       case rel => exact ⟨k + 1, _, by have h1 := HGK.out; omega, rfl, congrArg (Value.int .i64) (by first | omega | (unfold wrap64; omega)), HE2, ((hx.trans hx1).trans hz4)⟩
     ·
      have HE2 := Lib.hid (HK.out.trans (kind_skip (t := t) hlt b5))
      have cf25 := blk2 (Ext.block ((hz3.trans hx).trans hx1) HB0.out.1)
      have cf26 := blk3 (Ext.block ((hz3.trans hx).trans hx1) HB0.out.2)
      have cf27 := blk5 HB1.out
      go_wp2_with fail
      go_roundg (gk - 1)
      case measure => have h1 := HGK.out; omega
      case rel => exact ⟨k + 1, _, by have h1 := HGK.out; omega, rfl, congrArg (Value.int .i64) (by first | omega | (unfold wrap64; omega)), HE2, (hx.trans hx1)⟩
    ·
     obtain rfl : k = s.hops.length := by omega
     have HE2 : Hid (segKind t s = if n == 1 then 1 else if n == 2 then 2 else 0) := Lib.hid (by rw [HK.out, List.drop_length]; rfl)
     cases k1 : (n == 1)
     ·
      cases k2 : (n == 2)
      ·
       try clear cf9
       try clear cf10
       have cf28 := blk2 (Ext.block (hz3.trans hx) HB0.out.1)
       have cf29 := blk3 (Ext.block (hz3.trans hx) HB0.out.2)
       go_wp2_with fail
       go_ret
       exact ⟨ret_int (by rw [HE2.out, k1, k2]; rfl), ((hx0.trans hz3).trans hx)⟩
      ·
       try clear cf9
       try clear cf10
       have cf30 := blk2 (Ext.block (hz3.trans hx) HB0.out.1)
       have cf31 := blk3 (Ext.block (hz3.trans hx) HB0.out.2)
       go_wp2_with fail
       go_ret
       exact ⟨ret_int (by rw [HE2.out, k1, k2]; rfl), ((hx0.trans hz3).trans hx)⟩
     ·
      try clear cf9
      try clear cf10
      have cf32 := blk2 (Ext.block (hz3.trans hx) HB0.out.1)
      have cf33 := blk3 (Ext.block (hz3.trans hx) HB0.out.2)
      go_wp2_with fail
      go_ret
      exact ⟨ret_int (by rw [HE2.out, k1]; rfl), ((hx0.trans hz3).trans hx)⟩
set_option maxRecDepth 100000 in
set_option maxHeartbeats 8000000 in
theorem s_SegmentKind (t : Topo) (v1 v2 : Value) (s : Seg) (v : Value)  (w : World) (ha : RdS ASd.rep w v1 t.ases) (hk : RdS Lnk.rep w v2 t.links) (r : RdS Hop.rep w v s.hops) (hl : s.hops.length ≤ 1048576) :
  Calls Try.prog 119 #[.agg #[v1, v2], .agg #[.int .i64 s.ts, .int .i64 s.beta, v]] w fun e w' => e = .returned (.int .i64 (segKind t s)) ∧ Ext w w' := by
 obtain ⟨o, cap, rfl, hsm⟩ := r.shape
 have hx0 := ext2 w (.cells #[v1, v2] 41) (.cells #[.int .i64 s.ts, .int .i64 s.beta, .slice o s.hops.length cap] 60)
 have HB0 := Lib.hid (al2 w (.cells #[v1, v2] 41) (.cells #[.int .i64 s.ts, .int .i64 s.beta, .slice o s.hops.length cap] 60))
 go_enter Try.func119, Try.ntmps119
 obtain ⟨W0, hW0⟩ : ∃ W0 : World, W0 = ((w.alloc (.cells #[v1, v2] 41)).alloc (.cells #[.int .i64 s.ts, .int .i64 s.beta, .slice o s.hops.length cap] 60)) := ⟨_, rfl⟩
 rw [← hW0] at hx0 HB0
 obtain ⟨oA, cA, rfl, _⟩ := ha.shape
 have cf1 := blk2 HB0.out.1
 have cf2 := blk3 HB0.out.2
 go_wp2_with fail
 rw [← hW0]
 clear hW0
 cases bb : wfSeg t s
 ·
  have HE := Lib.hid (show segKind t s = 0 by unfold segKind; rw [bb]; rfl)
  have cf3 := blk2 HB0.out.1
  have cf4 := blk3 HB0.out.2
  go_wp2_with fail
  refine wp_region_ext (by kernel_rfl) (by kernel_rfl) ?_
  have q0 := ExtW.cell (cf3.1)
  have q1 := ExtW.cell (cf3.2)
  have q2 := ExtW.cell (cf4.1)
  have q3 := ExtW.cell (cf4.2.1)
  have q4 := ExtW.cell (cf4.2.2)
  repeat (first | go_big_quiet_step (((first | (go_at_call 117; exact Calls.ext_of (s_WellFormed t _ _ s _ _ ((ha.ext hx0).ext (ExtW.h _)) ((hk.ext hx0).ext (ExtW.h _)) ((r.ext hx0).ext (ExtW.h _)) hl))))) | quiet_step (((first | (go_at_call 117; exact Calls.ext_of (s_WellFormed t _ _ s _ _ ((ha.ext hx0).ext (ExtW.h _)) ((hk.ext hx0).ext (ExtW.h _)) ((r.ext hx0).ext (ExtW.h _)) hl))))))
  refine wpQuiet_nil ?_
  intro w1 hw1
  have hz1 := ExtW.out hw1
  clear hw1 q0 q1 q2 q3 q4
  go_wp2_with fail
  go_ret
  exact ⟨ret_int HE.out.symm, (hx0.trans hz1)⟩
 ·
  obtain ⟨h0, hA⟩ := wf_facts bb
  obtain ⟨b, off, rfl, hc0⟩ := Hop.at (r.ext hx0) 0 h0
  have h00 : (0 : Int) < (s.hops.length : Int) := by omega
  simp only [Nat.zero_mul, Nat.add_zero] at hc0
  have hx00 : hopAt s.hops 0 = s.hops[0] := hopAt_at h0
  rw [hx00] at hA
  have HX0 := Lib.hid hx00
  clear hx00
  obtain ⟨hp1, hp2⟩ := isAs_lt hA
  have hp3 : s.hops[0].asn < t.ases.length := by omega
  obtain ⟨bA, offA, rfl, hcA⟩ := ASd.at (ha.ext hx0) s.hops[0].asn.toNat hp2
  have HC := Lib.hid (show (asAt t s.hops[0].asn).core = t.ases[s.hops[0].asn.toNat].core by rw [asAt_at hp1 hp2])
  cases bc : t.ases[s.hops[0].asn.toNat].core
  ·
   have HE := Lib.hid (show segKind t s = 0 by unfold segKind; rw [HX0.out, HC.out, bc, bb]; rfl)
   try clear cf1
   try clear cf2
   have cf5 := blk2 HB0.out.1
   have cf6 := blk3 HB0.out.2
   go_wp2_with fail
   refine wp_region_ext (by kernel_rfl) (by kernel_rfl) ?_
   have q0 := ExtW.cell (cf5.1)
   have q1 := ExtW.cell (cf5.2)
   have q2 := ExtW.cell (cf6.1)
   have q3 := ExtW.cell (cf6.2.1)
   have q4 := ExtW.cell (cf6.2.2)
   have q5 := ExtW.cell (hc0.1)
   have q6 := ExtW.cell (hc0.2.1)
   have q7 := ExtW.cell (hc0.2.2.1)
   have q8 := ExtW.cell (hc0.2.2.2.1)
   have q9 := ExtW.cell (hc0.2.2.2.2)
   have q10 := ExtW.cell (hcA.1)
   have q11 := ExtW.cell (hcA.2.1)
   have q12 := ExtW.cell (hcA.2.2)
   repeat (first | go_big_quiet_step (((first | (go_at_call 117; exact Calls.ext_of (s_WellFormed t _ _ s _ _ ((ha.ext hx0).ext (ExtW.h _)) ((hk.ext hx0).ext (ExtW.h _)) ((r.ext hx0).ext (ExtW.h _)) hl)) | (go_at_call 140; exact Calls.ext_of (s_FirstAS s _ _ ((r.ext hx0).ext (ExtW.h _)) h0 _ rfl))))) | quiet_step (((first | (go_at_call 117; exact Calls.ext_of (s_WellFormed t _ _ s _ _ ((ha.ext hx0).ext (ExtW.h _)) ((hk.ext hx0).ext (ExtW.h _)) ((r.ext hx0).ext (ExtW.h _)) hl)) | (go_at_call 140; exact Calls.ext_of (s_FirstAS s _ _ ((r.ext hx0).ext (ExtW.h _)) h0 _ rfl))))))
   refine wpQuiet_nil ?_
   intro w2 hw2
   have hz2 := ExtW.out hw2
   clear hw2 q0 q1 q2 q3 q4 q5 q6 q7 q8 q9 q10 q11 q12
   go_wp2_with fail
   go_ret
   exact ⟨ret_int HE.out.symm, (hx0.trans hz2)⟩
  ·
   have HE := Lib.hid (show segKind t s = kindGo t 0 (s.hops.drop 0) by unfold segKind; rw [HX0.out, HC.out, bc, bb]; rfl)
   try clear cf1
   try clear cf2
   have cf7 := blk2 HB0.out.1
   have cf8 := blk3 HB0.out.2
   go_wp2_with fail
   refine wp_region_ext (by kernel_rfl) (by kernel_rfl) ?_
   have q0 := ExtW.cell (cf7.1)
   have q1 := ExtW.cell (cf7.2)
   have q2 := ExtW.cell (cf8.1)
   have q3 := ExtW.cell (cf8.2.1)
   have q4 := ExtW.cell (cf8.2.2)
   have q5 := ExtW.cell (hc0.1)
   have q6 := ExtW.cell (hc0.2.1)
   have q7 := ExtW.cell (hc0.2.2.1)
   have q8 := ExtW.cell (hc0.2.2.2.1)
   have q9 := ExtW.cell (hc0.2.2.2.2)
   have q10 := ExtW.cell (hcA.1)
   have q11 := ExtW.cell (hcA.2.1)
   have q12 := ExtW.cell (hcA.2.2)
   repeat (first | go_big_quiet_step (((first | (go_at_call 117; exact Calls.ext_of (s_WellFormed t _ _ s _ _ ((ha.ext hx0).ext (ExtW.h _)) ((hk.ext hx0).ext (ExtW.h _)) ((r.ext hx0).ext (ExtW.h _)) hl)) | (go_at_call 140; exact Calls.ext_of (s_FirstAS s _ _ ((r.ext hx0).ext (ExtW.h _)) h0 _ rfl))))) | quiet_step (((first | (go_at_call 117; exact Calls.ext_of (s_WellFormed t _ _ s _ _ ((ha.ext hx0).ext (ExtW.h _)) ((hk.ext hx0).ext (ExtW.h _)) ((r.ext hx0).ext (ExtW.h _)) hl)) | (go_at_call 140; exact Calls.ext_of (s_FirstAS s _ _ ((r.ext hx0).ext (ExtW.h _)) h0 _ rfl))))))
   refine wpQuiet_nil ?_
   intro w3 hw3
   have hz3 := ExtW.out hw3
   clear hw3 q0 q1 q2 q3 q4 q5 q6 q7 q8 q9 q10 q11 q12
   try clear cf7
   try clear cf8
   have cf9 := blk2 (Ext.block hz3 HB0.out.1)
   have cf10 := blk3 (Ext.block hz3 HB0.out.2)
   go_wp2_with fail
   clear hc0 hcA bc bb hA
   go_loopg [5, 6] s.hops.length (fun gk kd i wr => ∃ (k : Nat) (n : Int), gk + k = s.hops.length ∧ kd = .int .i64 n ∧ i = .int .i64 k ∧ Hid (segKind t s = kindGo t n (s.hops.drop k)) ∧ Ext w3 wr)
   case atStart => exact ⟨0, 0, by omega, rfl, rfl, HE, Ext.refl _⟩
   case round =>
    obtain ⟨k, n, hgk, rfl, rfl, HK, hx⟩ := hrel
    have HGK := Lib.hid hgk
    clear hgk
    have hkl : k ≤ s.hops.length := by have h1 := HGK.out; omega
    by_cases hlt : k < s.hops.length
    ·
     obtain ⟨b', off', hbo, hc⟩ := Hop.at (r.ext ((hx0.trans hz3).trans hx)) k hlt
     cases hbo
     have h4 : (k : Int) < (s.hops.length : Int) := by omega
     cases b5 : (s.hops[k].eg == 0)
     ·
      try clear cf9
      try clear cf10
      have cf11 := blk2 (Ext.block (hz3.trans hx) HB0.out.1)
      have cf12 := blk3 (Ext.block (hz3.trans hx) HB0.out.2)
      go_upto_region 8 with (fail)
      go_wp2_with fail
      refine wp_region_ext (by kernel_rfl) (by kernel_rfl) ?_
      have q0 := ExtW.cell (cf11.1)
      have q1 := ExtW.cell (cf11.2)
      have q2 := ExtW.cell (cf12.1)
      have q3 := ExtW.cell (cf12.2.1)
      have q4 := ExtW.cell (cf12.2.2)
      have q5 := ExtW.cell (hc.1)
      have q6 := ExtW.cell (hc.2.1)
      have q7 := ExtW.cell (hc.2.2.1)
      have q8 := ExtW.cell (hc.2.2.2.1)
      have q9 := ExtW.cell (hc.2.2.2.2)
      repeat (first | go_big_quiet_step (((first | (go_at_call 141; exact Calls.ext_of (s_InterfaceKind t _ _ s.hops[k].asn s.hops[k].eg _ ((hk.ext ((hx0.trans hz3).trans hx)).ext (ExtW.h _))))))) | quiet_step (((first | (go_at_call 141; exact Calls.ext_of (s_InterfaceKind t _ _ s.hops[k].asn s.hops[k].eg _ ((hk.ext ((hx0.trans hz3).trans hx)).ext (ExtW.h _))))))))
      refine wpQuiet_nil ?_
      intro w4 hw4
      have hz4 := ExtW.out hw4
      clear hw4 q0 q1 q2 q3 q4 q5 q6 q7 q8 q9
      generalize hik : ifKind t s.hops[k].asn s.hops[k].eg = ik
      have HIK := Lib.hid hik
      clear hik
      cases k0 : (n == 0)
      ·
       have k0' : (n != 0) = true := by simp only [bne, k0]; rfl
       cases k1 : (ik == n)
       ·
        have k1' : (ik != n) = true := by simp only [bne, k1]; rfl
        have HE2 := Lib.hid (HK.out.trans (kind_bad hlt b5 k0 (by rw [HIK.out]; exact k1)))
        try clear cf11
        try clear cf12
        have cf13 := blk2 (Ext.block ((hz3.trans hx).trans hz4) HB0.out.1)
        have cf14 := blk3 (Ext.block ((hz3.trans hx).trans hz4) HB0.out.2)
        have cf15 := Hop.at_ext hz4 hc
        go_wp2_with fail
        go_ret
        exact ⟨ret_int HE2.out.symm, (((hx0.trans hz3).trans hx).trans hz4)⟩
       ·
        have k1' : (ik != n) = false := by simp only [bne, k1]; rfl
        have HE2 := Lib.hid (HK.out.trans (kind_go hlt b5 (.inr (by rw [HIK.out]; exact k1))))
        rw [HIK.out] at HE2
        try clear cf11
        try clear cf12
        have cf16 := blk2 (Ext.block ((hz3.trans hx).trans hz4) HB0.out.1)
        have cf17 := blk3 (Ext.block ((hz3.trans hx).trans hz4) HB0.out.2)
        have cf18 := Hop.at_ext hz4 hc
        go_wp2_with fail
        go_roundg (gk - 1)
        case measure => have h1 := HGK.out; omega
        case rel => exact ⟨k + 1, _, by have h1 := HGK.out; omega, rfl, congrArg (Value.int .i64) (by first | omega | (unfold wrap64; omega)), HE2, (hx.trans hz4)⟩
      ·
       have k0' : (n != 0) = false := by simp only [bne, k0]; rfl
       have HE2 := Lib.hid (HK.out.trans (kind_go hlt b5 (.inl k0)))
       rw [HIK.out] at HE2
       try clear cf11
       try clear cf12
       have cf19 := blk2 (Ext.block ((hz3.trans hx).trans hz4) HB0.out.1)
       have cf20 := blk3 (Ext.block ((hz3.trans hx).trans hz4) HB0.out.2)
       have cf21 := Hop.at_ext hz4 hc
       go_wp2_with fail
       go_roundg (gk - 1)
       case measure => have h1 := HGK.out; omega
       case rel => exact ⟨k + 1, _, by have h1 := HGK.out; omega, rfl, congrArg (Value.int .i64) (by first | omega | (unfold wrap64; omega)), HE2, (hx.trans hz4)⟩
     ·
      have HE2 := Lib.hid (HK.out.trans (kind_skip (t := t) hlt b5))
      try clear cf9
      try clear cf10
      have cf22 := blk2 (Ext.block (hz3.trans hx) HB0.out.1)
      have cf23 := blk3 (Ext.block (hz3.trans hx) HB0.out.2)
      go_wp2_with fail
      go_roundg (gk - 1)
      case measure => have h1 := HGK.out; omega
      case rel => exact ⟨k + 1, _, by have h1 := HGK.out; omega, rfl, congrArg (Value.int .i64) (by first | omega | (unfold wrap64; omega)), HE2, hx⟩
    ·
     obtain rfl : k = s.hops.length := by omega
     have HE2 : Hid (segKind t s = if n == 1 then 1 else if n == 2 then 2 else 0) := Lib.hid (by rw [HK.out, List.drop_length]; rfl)
     cases k1 : (n == 1)
     ·
      cases k2 : (n == 2)
      ·
       try clear cf9
       try clear cf10
       have cf24 := blk2 (Ext.block (hz3.trans hx) HB0.out.1)
       have cf25 := blk3 (Ext.block (hz3.trans hx) HB0.out.2)
       go_wp2_with fail
       go_ret
       exact ⟨ret_int (by rw [HE2.out, k1, k2]; rfl), ((hx0.trans hz3).trans hx)⟩
      ·
       try clear cf9
       try clear cf10
       have cf26 := blk2 (Ext.block (hz3.trans hx) HB0.out.1)
       have cf27 := blk3 (Ext.block (hz3.trans hx) HB0.out.2)
       go_wp2_with fail
       go_ret
       exact ⟨ret_int (by rw [HE2.out, k1, k2]; rfl), ((hx0.trans hz3).trans hx)⟩
     ·
      try clear cf9
      try clear cf10
      have cf28 := blk2 (Ext.block (hz3.trans hx) HB0.out.1)
      have cf29 := blk3 (Ext.block (hz3.trans hx) HB0.out.2)
      go_wp2_with fail
      go_ret
      exact ⟨ret_int (by rw [HE2.out, k1]; rfl), ((hx0.trans hz3).trans hx)⟩
end
section
open Go.ChangeShapes Go.WideShapes Go.ChangeAt Go.RowKit Go.Deep
set_option maxRecDepth 100000 in
set_option maxHeartbeats 4000000 in
theorem i_ValidSegment (t : Topo) (v1 v2 : Value) (s : Seg) (v : Value)  (w : World) (ha : RdS ASd.rep w v1 t.ases) (hk : RdS Lnk.rep w v2 t.links) (r : RdS Hop.rep w v s.hops) (hl : s.hops.length ≤ 1048576) :
  Calls Try.prog 21 #[.agg #[v1, v2], .agg #[.int .i64 s.ts, .int .i64 s.beta, v]] w fun e w' => e = .returned (.bool (validSeg t s)) ∧ Ext w w' := by
 obtain ⟨o, cap, rfl, hsm⟩ := r.shape
 have hx0 := ext2 w (.cells #[v1, v2] 41) (.cells #[.int .i64 s.ts, .int .i64 s.beta, .slice o s.hops.length cap] 60)
 have HB0 := Lib.hid (al2 w (.cells #[v1, v2] 41) (.cells #[.int .i64 s.ts, .int .i64 s.beta, .slice o s.hops.length cap] 60))
 go_enter Try.func21, Try.ntmps21
 obtain ⟨W0, hW0⟩ : ∃ W0 : World, W0 = ((w.alloc (.cells #[v1, v2] 41)).alloc (.cells #[.int .i64 s.ts, .int .i64 s.beta, .slice o s.hops.length cap] 60)) := ⟨_, rfl⟩
 rw [← hW0] at hx0 HB0
 have cf1 := blk2 HB0.out.1
 have cf2 := blk3 HB0.out.2
 go_wp2_with fail
 rw [← hW0]
 clear hW0
 refine (i_WellFormed t _ _ s _ _ (ha.ext hx0) (hk.ext hx0) (r.ext hx0) hl).mono ?_
 rintro e w1 ⟨rfl, hz1⟩
 cases b1 : wfSeg t s
 ·
  have HE := Lib.hid (show validSeg t s = false by simp [validSeg, b1])
  try clear cf1
  try clear cf2
  have cf3 := blk2 (Ext.block hz1 HB0.out.1)
  have cf4 := blk3 (Ext.block hz1 HB0.out.2)
  go_wp2_with fail
  go_ret
  exact ⟨ret_bool HE.out.symm, (hx0.trans hz1)⟩
 ·
  try clear cf1
  try clear cf2
  have cf5 := blk2 (Ext.block hz1 HB0.out.1)
  have cf6 := blk3 (Ext.block hz1 HB0.out.2)
  go_wp2_with fail
  refine (i_FirstInvalidHop t _ _ s _ _ (ha.ext (hx0.trans hz1)) (r.ext (hx0.trans hz1)) hl).mono ?_
  rintro e w2 ⟨rfl, hz2⟩
  cases b2 : decide (firstBad t s < 0)
  ·
   have HE := Lib.hid (show validSeg t s = false by simp [validSeg, b2])
   try clear cf5
   try clear cf6
   have cf7 := blk2 (Ext.block (hz1.trans hz2) HB0.out.1)
   have cf8 := blk3 (Ext.block (hz1.trans hz2) HB0.out.2)
   go_wp2_with fail
   go_ret
   exact ⟨ret_bool HE.out.symm, ((hx0.trans hz1).trans hz2)⟩
  ·
   try clear cf5
   try clear cf6
   have cf9 := blk2 (Ext.block (hz1.trans hz2) HB0.out.1)
   have cf10 := blk3 (Ext.block (hz1.trans hz2) HB0.out.2)
   go_wp2_with fail
   refine (i_SegmentKind t _ _ s _ _ (ha.ext ((hx0.trans hz1).trans hz2)) (hk.ext ((hx0.trans hz1).trans hz2)) (r.ext ((hx0.trans hz1).trans hz2)) hl).mono ?_
   rintro e w3 ⟨rfl, hz3⟩
   cases b3 : (segKind t s == 0)
   ·
    have b3' : (segKind t s != 0) = true := by simp only [bne, b3]; rfl
    try clear cf9
    try clear cf10
    have cf11 := blk2 (Ext.block ((hz1.trans hz2).trans hz3) HB0.out.1)
    have cf12 := blk3 (Ext.block ((hz1.trans hz2).trans hz3) HB0.out.2)
    go_wp2_with fail
    refine (i_InRange _ _ _ _).mono ?_
    rintro e _ ⟨rfl, rfl⟩
    cases b4 : inR s.ts 0 1000000
    ·
     have HE := Lib.hid (show validSeg t s = false by simp [validSeg, b4])
     go_wp2_with fail
     go_ret
     exact ⟨ret_bool HE.out.symm, (((hx0.trans hz1).trans hz2).trans hz3)⟩
    ·
     go_wp2_with fail
     refine (i_isResidue _ _).mono ?_
     rintro e _ ⟨rfl, rfl⟩
     have HE := Lib.hid (show validSeg t s = isRes s.beta by unfold validSeg; rw [b1, b2, b3', b4]; rfl)
     go_wp2_with fail
     go_ret
     exact ⟨ret_bool HE.out.symm, (((hx0.trans hz1).trans hz2).trans hz3)⟩
   ·
    have b3' : (segKind t s != 0) = false := by simp only [bne, b3]; rfl
    have HE := Lib.hid (show validSeg t s = false by simp [validSeg, b3'])
    try clear cf9
    try clear cf10
    have cf13 := blk2 (Ext.block ((hz1.trans hz2).trans hz3) HB0.out.1)
    have cf14 := blk3 (Ext.block ((hz1.trans hz2).trans hz3) HB0.out.2)
    go_wp2_with fail
    go_ret
    exact ⟨ret_bool HE.out.symm, (((hx0.trans hz1).trans hz2).trans hz3)⟩
set_option maxRecDepth 100000 in
set_option maxHeartbeats 4000000 in
theorem s_ValidSegment (t : Topo) (v1 v2 : Value) (s : Seg) (v : Value)  (w : World) (ha : RdS ASd.rep w v1 t.ases) (hk : RdS Lnk.rep w v2 t.links) (r : RdS Hop.rep w v s.hops) (hl : s.hops.length ≤ 1048576) :
  Calls Try.prog 92 #[.agg #[v1, v2], .agg #[.int .i64 s.ts, .int .i64 s.beta, v]] w fun e w' => e = .returned (.bool (validSeg t s)) ∧ Ext w w' := by
 obtain ⟨o, cap, rfl, hsm⟩ := r.shape
 have hx0 := ext2 w (.cells #[v1, v2] 41) (.cells #[.int .i64 s.ts, .int .i64 s.beta, .slice o s.hops.length cap] 60)
 have HB0 := Lib.hid (al2 w (.cells #[v1, v2] 41) (.cells #[.int .i64 s.ts, .int .i64 s.beta, .slice o s.hops.length cap] 60))
 go_enter Try.func92, Try.ntmps92
 obtain ⟨W0, hW0⟩ : ∃ W0 : World, W0 = ((w.alloc (.cells #[v1, v2] 41)).alloc (.cells #[.int .i64 s.ts, .int .i64 s.beta, .slice o s.hops.length cap] 60)) := ⟨_, rfl⟩
 rw [← hW0] at hx0 HB0
 have cf1 := blk2 HB0.out.1
 have cf2 := blk3 HB0.out.2
 go_wp2_with fail
 rw [← hW0]
 clear hW0
 refine (s_WellFormed t _ _ s _ _ (ha.ext hx0) (hk.ext hx0) (r.ext hx0) hl).mono ?_
 rintro e w1 ⟨rfl, hz1⟩
 cases b1 : wfSeg t s
 ·
  have HE := Lib.hid (show validSeg t s = false by simp [validSeg, b1])
  try clear cf1
  try clear cf2
  have cf3 := blk2 (Ext.block hz1 HB0.out.1)
  have cf4 := blk3 (Ext.block hz1 HB0.out.2)
  go_wp2_with fail
  go_ret
  exact ⟨ret_bool HE.out.symm, (hx0.trans hz1)⟩
 ·
  try clear cf1
  try clear cf2
  have cf5 := blk2 (Ext.block hz1 HB0.out.1)
  have cf6 := blk3 (Ext.block hz1 HB0.out.2)
  go_wp2_with fail
  refine (s_FirstInvalidHop t _ _ s _ _ (ha.ext (hx0.trans hz1)) (r.ext (hx0.trans hz1)) hl).mono ?_
  rintro e w2 ⟨rfl, hz2⟩
  cases b2 : decide (firstBad t s < 0)
  ·
   have HE := Lib.hid (show validSeg t s = false by simp [validSeg, b2])
   try clear cf5
   try clear cf6
   have cf7 := blk2 (Ext.block (hz1.trans hz2) HB0.out.1)
   have cf8 := blk3 (Ext.block (hz1.trans hz2) HB0.out.2)
   go_wp2_with fail
   go_ret
   exact ⟨ret_bool HE.out.symm, ((hx0.trans hz1).trans hz2)⟩
  ·
   try clear cf5
   try clear cf6
   have cf9 := blk2 (Ext.block (hz1.trans hz2) HB0.out.1)
   have cf10 := blk3 (Ext.block (hz1.trans hz2) HB0.out.2)
   go_wp2_with fail
   refine (s_SegmentKind t _ _ s _ _ (ha.ext ((hx0.trans hz1).trans hz2)) (hk.ext ((hx0.trans hz1).trans hz2)) (r.ext ((hx0.trans hz1).trans hz2)) hl).mono ?_
   rintro e w3 ⟨rfl, hz3⟩
   cases b3 : (segKind t s == 0)
   ·
    have b3' : (segKind t s != 0) = true := by simp only [bne, b3]; rfl
    try clear cf9
    try clear cf10
    have cf11 := blk2 (Ext.block ((hz1.trans hz2).trans hz3) HB0.out.1)
    have cf12 := blk3 (Ext.block ((hz1.trans hz2).trans hz3) HB0.out.2)
    go_wp2_with fail
    refine (s_l1In _ _ _ _).mono ?_
    rintro e _ ⟨rfl, rfl⟩
    cases b4 : inR s.ts 0 1000000
    ·
     have HE := Lib.hid (show validSeg t s = false by simp [validSeg, b4])
     go_wp2_with fail
     go_ret
     exact ⟨ret_bool HE.out.symm, (((hx0.trans hz1).trans hz2).trans hz3)⟩
    ·
     go_wp2_with fail
     refine (s_l3Ok _ _).mono ?_
     rintro e _ ⟨rfl, rfl⟩
     have HE := Lib.hid (show validSeg t s = isRes s.beta by unfold validSeg; rw [b1, b2, b3', b4]; rfl)
     go_wp2_with fail
     go_ret
     exact ⟨ret_bool HE.out.symm, (((hx0.trans hz1).trans hz2).trans hz3)⟩
   ·
    have b3' : (segKind t s != 0) = false := by simp only [bne, b3]; rfl
    have HE := Lib.hid (show validSeg t s = false by simp [validSeg, b3'])
    try clear cf9
    try clear cf10
    have cf13 := blk2 (Ext.block ((hz1.trans hz2).trans hz3) HB0.out.1)
    have cf14 := blk3 (Ext.block ((hz1.trans hz2).trans hz3) HB0.out.2)
    go_wp2_with fail
    go_ret
    exact ⟨ret_bool HE.out.symm, (((hx0.trans hz1).trans hz2).trans hz3)⟩
set_option maxHeartbeats 400000 in
theorem s_Min (a b : Int) (w : World) :
  Calls Try.prog 123 #[.int .i64 a, .int .i64 b] w fun e w' => e = .returned (.int .i64 (if b < a then b else a)) ∧ w = w' := by
 go_enter Try.func123, Try.ntmps123
 by_cases h : b < a
 ·
  go_wp2_with fail
  go_ret
  exact ⟨ret_int (by first | rfl | simp [*]), rfl⟩
 ·
  go_wp2_with fail
  go_ret
  exact ⟨ret_int (by first | rfl | simp [*]), rfl⟩
set_option maxRecDepth 100000 in
set_option maxHeartbeats 4000000 in
theorem i_SegmentUsable (t : Topo) (v1 v2 : Value) (s : Seg) (v : Value) (now : Int) (w : World) (ha : RdS ASd.rep w v1 t.ases) (hk : RdS Lnk.rep w v2 t.links) (r : RdS Hop.rep w v s.hops) (hl : s.hops.length ≤ 1048576) :
  Calls Try.prog 22 #[.agg #[v1, v2], .agg #[.int .i64 s.ts, .int .i64 s.beta, v], .int .i64 now] w fun e w' => e = .returned (.bool (segUsable t s now)) ∧ Ext w w' := by
 obtain ⟨o, cap, rfl, hsm⟩ := r.shape
 have hx0 := ext2 w (.cells #[v1, v2] 41) (.cells #[.int .i64 s.ts, .int .i64 s.beta, .slice o s.hops.length cap] 60)
 have HB0 := Lib.hid (al2 w (.cells #[v1, v2] 41) (.cells #[.int .i64 s.ts, .int .i64 s.beta, .slice o s.hops.length cap] 60))
 go_enter Try.func22, Try.ntmps22
 obtain ⟨W0, hW0⟩ : ∃ W0 : World, W0 = ((w.alloc (.cells #[v1, v2] 41)).alloc (.cells #[.int .i64 s.ts, .int .i64 s.beta, .slice o s.hops.length cap] 60)) := ⟨_, rfl⟩
 rw [← hW0] at hx0 HB0
 have cf1 := blk2 HB0.out.1
 have cf2 := blk3 HB0.out.2
 go_wp2_with fail
 rw [← hW0]
 clear hW0
 refine (i_ValidSegment t _ _ s _ _ (ha.ext hx0) (hk.ext hx0) (r.ext hx0) hl).mono ?_
 rintro e w1 ⟨rfl, hz1⟩
 cases b1 : validSeg t s
 ·
  have HE := Lib.hid (show segUsable t s now = false by simp [segUsable, b1])
  try clear cf1
  try clear cf2
  have cf3 := blk2 (Ext.block hz1 HB0.out.1)
  have cf4 := blk3 (Ext.block hz1 HB0.out.2)
  go_wp2_with fail
  go_ret
  exact ⟨ret_bool HE.out.symm, (hx0.trans hz1)⟩
 ·
  try clear cf1
  try clear cf2
  have cf5 := blk2 (Ext.block hz1 HB0.out.1)
  have cf6 := blk3 (Ext.block hz1 HB0.out.2)
  go_wp2_with fail
  refine (i_IsTerminated s _ _ (r.ext (hx0.trans hz1))).mono ?_
  rintro e w2 ⟨rfl, hz2⟩
  cases b2 : isTerm s
  ·
   have HE := Lib.hid (show segUsable t s now = false by simp [segUsable, b2])
   try clear cf5
   try clear cf6
   have cf7 := blk2 (Ext.block (hz1.trans hz2) HB0.out.1)
   have cf8 := blk3 (Ext.block (hz1.trans hz2) HB0.out.2)
   go_wp2_with fail
   go_ret
   exact ⟨ret_bool HE.out.symm, ((hx0.trans hz1).trans hz2)⟩
  ·
   by_cases b3 : s.ts ≤ now
   ·
    try clear cf5
    try clear cf6
    have cf9 := blk2 (Ext.block (hz1.trans hz2) HB0.out.1)
    have cf10 := blk3 (Ext.block (hz1.trans hz2) HB0.out.2)
    go_wp2_with fail
    refine (i_SegmentExpiry s _ _ (r.ext ((hx0.trans hz1).trans hz2))).mono ?_
    rintro e w3 ⟨rfl, hz3⟩
    have HE := Lib.hid (show segUsable t s now = decide (now ≤ leastExp s.hops) by unfold segUsable; rw [b1, b2, decide_eq_true b3]; rfl)
    try clear cf9
    try clear cf10
    have cf11 := blk2 (Ext.block ((hz1.trans hz2).trans hz3) HB0.out.1)
    have cf12 := blk3 (Ext.block ((hz1.trans hz2).trans hz3) HB0.out.2)
    go_wp2_with fail
    go_ret
    exact ⟨ret_bool HE.out.symm, (((hx0.trans hz1).trans hz2).trans hz3)⟩
   ·
    have b3d : decide (s.ts ≤ now) = false := decide_eq_false b3
    have HE := Lib.hid (show segUsable t s now = false by simp [segUsable, b3])
    try clear cf5
    try clear cf6
    have cf13 := blk2 (Ext.block (hz1.trans hz2) HB0.out.1)
    have cf14 := blk3 (Ext.block (hz1.trans hz2) HB0.out.2)
    go_wp2_with fail
    go_ret
    exact ⟨ret_bool HE.out.symm, ((hx0.trans hz1).trans hz2)⟩
theorem strip_set {l xs : List Hop} {k : Nat} (h : xs.take k = (strip l).take k) (h2 : xs.drop k = l.drop k) (hk : k < l.length) (hx : xs.length = l.length) : (xs.set k { xs[k]'(by omega) with mac := 0 }).take (k + 1) = (strip l).take (k + 1) ∧ (xs.set k { xs[k]'(by omega) with mac := 0 }).drop (k + 1) = l.drop (k + 1) := by
 have hxk : xs[k]'(by omega) = l[k] := by
  have := congrArg List.head? h2
  rw [List.head?_drop, List.head?_drop, List.getElem?_eq_getElem (by omega), List.getElem?_eq_getElem hk] at this
  exact Option.some.inj this
 have hsl : (strip l).length = l.length := by simp [strip]
 constructor
 ·
  rw [List.take_succ_eq_append_getElem (by simp; omega), List.take_succ_eq_append_getElem (by omega), List.take_set_of_le (Nat.le_refl _), h]
  simp [strip, hxk]
 ·
  rw [List.drop_set_of_lt (by omega)]
  have h3 := congrArg (List.drop 1) h2
  simpa [List.drop_drop, Nat.add_comm] using h3
end
section
open Go.RowKit
structure Pol where
  most : Int
  den : Int
  clo : Int
  life : Int
def lastHop (s : Seg) : Hop := hopAt s.hops (s.hops.length - 1)
def canExt (t : Topo) (s : Seg) (r inn : Int) : Bool := isAs t r && validSeg t s && !(isTerm s) && !(hasI (asns s.hops) r) && ((remEnd t (lastHop s).asn (lastHop s).eg).1 == r) && ((remEnd t (lastHop s).asn (lastHop s).eg).2 == inn)
def allows (p : Pol) (s : Seg) (out : Int) : Bool := decide ((s.hops.length : Int) < p.most) && !(inSet p.clo out) && s.hops.all (fun h => !(inSet p.den h.asn))
def expFor (p : Pol) (ts : Int) : Int := if 1000000 < wrap64 (ts + p.life) then 1000000 else wrap64 (ts + p.life)
def endHop (t : Topo) (p : Pol) (s : Seg) (r inn : Int) : Hop := sealHop (asAt t r).key s.ts (betaAt s s.hops.length) ⟨r, inn, 0, expFor p s.ts, 0⟩
def ended (t : Topo) (p : Pol) (s : Seg) (r inn : Int) : Seg := ⟨s.ts, s.beta, s.hops ++ [endHop t p s r inn]⟩
def terminate (t : Topo) (p : Pol) (s : Seg) (r inn : Int) : Seg × Bool := if canExt t s r inn && allows p s 0 then (ended t p s r inn, true) else (s, false)
theorem terminate_no {t : Topo} {p : Pol} {s : Seg} {r inn : Int} (h : (terminate t p s r inn).2 = false) : (terminate t p s r inn).1 = s := by
  unfold terminate at h ⊢; split
  · rename_i h1; rw [if_pos h1] at h; cases h
  · rfl
theorem terminate_ok {t : Topo} {p : Pol} {s : Seg} {r inn : Int} (h : (terminate t p s r inn).2 = true) : (terminate t p s r inn).1 = ended t p s r inn ∧ canExt t s r inn = true ∧ allows p s 0 = true := by
  unfold terminate at h ⊢; split
  · rename_i h1; simp only [Bool.and_eq_true] at h1; exact ⟨rfl, h1⟩
  · rename_i h1; rw [if_neg h1] at h; cases h
theorem hopAt_pre {l m : List Hop} {i : Nat} (h : i < l.length) : hopAt (l ++ m) i = hopAt l i := by
  rw [hopAt_at (by simp; omega), hopAt_at h, List.getElem_append_left h]
theorem hopAt_end (l : List Hop) (x : Hop) : hopAt (l ++ [x]) l.length = x := by
  rw [hopAt_at (by simp)]; simp
theorem badFrom_neg {t : Topo} {s : Seg} : ∀ {n k : Nat}, badFrom t s n k < 0 → ∀ i, k ≤ i → i < k + n → verHop t s.ts (betaAt s i) (hopAt s.hops i) = true
  | 0, k, _, i, h1, h2 => by omega
  | n + 1, k, h, i, h1, h2 => by
    unfold badFrom at h
    split at h
    · rename_i hv
      rcases Nat.eq_or_lt_of_le h1 with e | e
      · rw [← e]; exact hv
      · exact badFrom_neg h i e (by omega)
    · omega
theorem kindGo_end {t : Topo} {x : Hop} (hx : x.eg = 0) : ∀ (l : List Hop) (k : Int), kindGo t k (l ++ [x]) = kindGo t k l
  | [], k => by simp [kindGo, hx]
  | h :: l, k => by
    have h1 := kindGo_end (t := t) hx l
    rw [List.cons_append]
    unfold kindGo
    rw [h1, h1]
theorem remEnd_in {t : Topo} (T : TopoOk t) {a d r inn : Int} (h : remEnd t a d = (r, inn)) (hr : 0 ≤ r) : 1 ≤ inn ∧ inn ≤ 6 := by
  unfold remEnd at h
  split at h
  · cases h; omega
  · split at h
    · rename_i l hl
      have hm : l ∈ t.links := List.mem_of_getElem? hl
      obtain ⟨_, _, _, h4, h5⟩ := lnkOk_of (T.ok l hm)
      split at h
      · cases h; exact h5
      · cases h; exact h4
    · cases h; omega
theorem ended_law {t : Topo} (T : TopoOk t) {p : Pol} (hp : p.most ≤ 8) (hl : 0 ≤ p.life ∧ p.life ≤ 1000) {s : Seg} {r inn : Int} (hc : canExt t s r inn = true) (ha : allows p s 0 = true) :
    validSeg t (ended t p s r inn) = true ∧ isTerm (ended t p s r inn) = true := by
  unfold canExt at hc
  simp only [Bool.and_eq_true, Bool.not_eq_true', beq_iff_eq] at hc
  obtain ⟨⟨⟨⟨⟨c1, c2⟩, c3⟩, c4⟩, c5⟩, c6⟩ := hc
  unfold allows at ha
  simp only [Bool.and_eq_true, decide_eq_true_eq] at ha
  have hlen := ha.1.1
  obtain ⟨hr0, hr7⟩ := isAs_bd T c1
  have hinn := remEnd_in T (Prod.ext c5 c6) hr0
  unfold validSeg at c2
  simp only [Bool.and_eq_true, decide_eq_true_eq, bne_iff_ne] at c2
  obtain ⟨⟨⟨⟨d1, d2⟩, d3⟩, d4⟩, d5⟩ := c2
  have hts := inR_true.1 d4
  obtain ⟨n0, _⟩ := wf_facts d1
  obtain ⟨x, hx⟩ : ∃ x, x = endHop t p s r inn := ⟨_, rfl⟩
  have x1 : x.asn = r := by rw [hx]; rfl
  have x2 : x.ing = inn := by rw [hx]; rfl
  have x3 : x.eg = 0 := by rw [hx]; rfl
  have hexp : 0 ≤ expFor p s.ts ∧ expFor p s.ts ≤ 1000000 := by
    have h1 : wrap64 (s.ts + p.life) = s.ts + p.life := by unfold wrap64; omega
    unfold expFor; rw [h1]; split <;> omega
  have xv : verHop t s.ts (betaAt s s.hops.length) x = true := by
    rw [hx]
    exact seal_ok T (h := ⟨r, inn, 0, expFor p s.ts, 0⟩) c1 (by simp only; omega) (by simp only; omega) (by simp only; omega) hexp
  have hE : ended t p s r inn = ⟨s.ts, s.beta, s.hops ++ [x]⟩ := by rw [hx]; rfl
  rw [hE]
  have nt : (lastHop s).eg ≠ 0 := by
    unfold isTerm at c3
    intro e
    unfold lastHop at e
    rw [e] at c3
    simp only [Bool.and_eq_false_iff, decide_eq_false_iff_not, beq_eq_false_iff_ne] at c3
    rcases c3 with h | h
    · omega
    · exact h rfl
  have wf : wfSeg t ⟨s.ts, s.beta, s.hops ++ [x]⟩ = true := by
    unfold wfSeg hopsOk at d1 ⊢
    simp only [Bool.and_eq_true, beq_iff_eq, allTo_true] at d1 ⊢
    obtain ⟨⟨⟨e1, e2⟩, e3⟩, e4⟩ := d1
    refine ⟨⟨⟨inR_true.2 (by simp; omega), fun i hi => ?_⟩, ?_⟩, fun i hi => ?_⟩
    · rcases Nat.lt_or_ge i s.hops.length with h1 | h1
      · have h2 := e2 i h1
        unfold hopFresh at h2 ⊢
        rw [hopAt_pre h1, List.map_append, List.take_append_of_le_length (by simp; omega)]
        exact h2
      · obtain rfl : i = s.hops.length := by simp at hi; omega
        unfold hopFresh
        unfold verHop at xv
        simp only [Bool.and_eq_true] at xv ⊢
        rw [hopAt_end]
        refine ⟨xv.1, ?_⟩
        have h3 : ((s.hops ++ [x]).map (·.asn)).take s.hops.length = asns s.hops := by
          unfold asns
          rw [List.map_append, List.take_append_of_le_length (by simp), List.take_of_length_le (by simp)]
        rw [h3, x1, c4]; rfl
    · rw [hopAt_pre n0]; exact e3
    · rcases Nat.lt_or_ge i s.hops.length with h1 | h1
      · have h2 := e4 i h1
        unfold wfJoin at h2 ⊢
        have h3 : hopAt (s.hops ++ [x]) (i - 1) = hopAt s.hops (i - 1) := hopAt_pre (by omega)
        rw [hopAt_pre h1, h3]
        simp only [Bool.and_eq_true, Bool.not_eq_true', Bool.and_eq_false_iff, beq_eq_false_iff_ne, decide_eq_false_iff_not] at h2 ⊢
        refine ⟨?_, h2.2⟩
        rcases h2.1 with h4 | h4
        · exact .inl h4
        · left
          obtain rfl : i = s.hops.length - 1 := by omega
          exact nt
      · obtain rfl : i = s.hops.length := by simp at hi; omega
        unfold wfJoin
        rw [hopAt_end, hopAt_pre (by omega : s.hops.length - 1 < s.hops.length)]
        simp only [Bool.and_eq_true, Bool.not_eq_true', Bool.and_eq_false_iff, decide_eq_false_iff_not, Bool.or_eq_true, decide_eq_true_eq, beq_iff_eq]
        refine ⟨.inr (by simp), .inr ⟨?_, ?_⟩⟩
        · rw [x1]; exact c5
        · rw [x2]; exact c6
  have hb : ∀ i : Nat, i ≤ s.hops.length → betaAt ⟨s.ts, s.beta, s.hops ++ [x]⟩ i = betaAt s i := fun i hi => betaAt_pre hi
  refine ⟨?_, ?_⟩
  · unfold validSeg
    simp only [Bool.and_eq_true, decide_eq_true_eq, bne_iff_ne]
    refine ⟨⟨⟨⟨wf, ?_⟩, ?_⟩, d4⟩, d5⟩
    · rcases badFrom_val (t := t) (s := ⟨s.ts, s.beta, s.hops ++ [x]⟩) (n := (s.hops ++ [x]).length) (k := 0) with h1 | ⟨j, _, h2, _, h4, _⟩
      · show badFrom t ⟨s.ts, s.beta, s.hops ++ [x]⟩ (s.hops ++ [x]).length 0 < 0
        omega
      · exfalso
        simp only at h4
        rcases Nat.lt_or_ge j s.hops.length with h5 | h5
        · rw [hb j (by omega), hopAt_pre h5, badFrom_neg d2 j (Nat.zero_le _) (by omega)] at h4; cases h4
        · obtain rfl : j = s.hops.length := by simp at h2; omega
          rw [hb _ (Nat.le_refl _), hopAt_end, xv] at h4; cases h4
    · unfold segKind at d3 ⊢
      rw [wf, Bool.true_and]
      simp only
      rw [hopAt_pre n0, kindGo_end x3]
      rw [d1, Bool.true_and] at d3
      exact d3
  · unfold isTerm
    simp only [Bool.and_eq_true, decide_eq_true_eq, beq_iff_eq]
    have e : (s.hops ++ [x]).length - 1 = s.hops.length := by simp
    rw [e, hopAt_end]
    exact ⟨by simp, x3⟩
theorem ended_no {t : Topo} {p : Pol} {s : Seg} {r inn : Int} (h : isTerm (ended t p s r inn) = true) (k d : Int) : canExt t (ended t p s r inn) k d = false := by
  unfold canExt; rw [h]; simp
theorem ended_usable {t : Topo} {p : Pol} {s : Seg} {r inn : Int} (h1 : validSeg t (ended t p s r inn) = true) (h2 : isTerm (ended t p s r inn) = true) :
    segUsable t (ended t p s r inn) (ended t p s r inn).ts = decide ((ended t p s r inn).ts ≤ leastExp (ended t p s r inn).hops) := by
  unfold segUsable; rw [h1, h2]; simp
theorem ended_back (t : Topo) (p : Pol) (s : Seg) (r inn : Int) : splice (ended t p s r inn) s.hops.length s s.hops.length = s := by
  unfold splice ended
  rw [if_pos (by simp only [Bool.and_eq_true, inR_true]; simp; omega)]
  simp
end
end Go.Proofs.Ytcpfmhgfaliemaa
