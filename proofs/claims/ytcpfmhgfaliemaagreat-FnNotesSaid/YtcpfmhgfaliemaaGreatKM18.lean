/- What these laws need: FnNotes: Contracts of the kinds of segments, and of valid and usable ones, program and reference. Contracts of valid and usable segments, of expiries and of codes struck out, program and reference. -/
import Derived.Test.YtcpfmhgfaliemaaGreatKM17
namespace Go.Proofs.YtcpfmhgfaliemaaGreat
section
open Go.ChangeShapes Go.WideShapes Go.ChangeAt Go.RowKit Go.Deep
def kindGo (t : Topo) : Int → List Hop → Int
 | kd, [] => if kd == 1 then 1 else if kd == 2 then 2 else 0
 | kd, h :: l => if h.eg == 0 then kindGo t kd l else if (kd != 0) && (ifKind t h.asn h.eg != kd) then 0 else kindGo t (ifKind t h.asn h.eg) l
def segKind (t : Topo) (s : Seg) : Int := if wfSeg t s && (asAt t (hopAt s.hops 0).asn).core then kindGo t 0 s.hops else 0
def validSeg (t : Topo) (s : Seg) : Bool := wfSeg t s && decide (firstBad t s < 0) && (segKind t s != 0) && inR s.ts 0 1000000 && isRes s.beta
def segUsable (t : Topo) (s : Seg) (now : Int) : Bool := validSeg t s && isTerm s && decide (s.ts ≤ now) && decide (now ≤ leastExp s.hops)
theorem wf_facts {t : Topo} {s : Seg} (h : wfSeg t s = true) : 0 < s.hops.length ∧ isAs t (hopAt s.hops 0).asn = true := by
 unfold wfSeg at h; simp only [Bool.and_eq_true] at h; have hl := wf_len' h.1.1; refine ⟨by omega, ?_⟩; have h1 := h.1.1; unfold hopsOk at h1; simp only [Bool.and_eq_true] at h1; have h2 := allTo_true.1 h1.2 0 (by omega); unfold hopFresh at h2; simp only [Bool.and_eq_true] at h2; exact h2.1.2
theorem kind_skip {t : Topo} {l : List Hop} {k : Nat} {kd : Int} (hk : k < l.length) (h : (l[k].eg == 0) = true) : kindGo t kd (l.drop k) = kindGo t kd (l.drop (k + 1)) := by
 rw [List.drop_eq_getElem_cons hk]; conv => lhs; unfold kindGo
 rw [h]; rfl
theorem kind_bad {t : Topo} {l : List Hop} {k : Nat} {kd : Int} (hk : k < l.length) (h : (l[k].eg == 0) = false) (h1 : (kd == 0) = false) (h2 : (ifKind t l[k].asn l[k].eg == kd) = false) : kindGo t kd (l.drop k) = 0 := by
 rw [List.drop_eq_getElem_cons hk]; unfold kindGo
 simp [h, bne, h1, h2]
theorem kind_go {t : Topo} {l : List Hop} {k : Nat} {kd : Int} (hk : k < l.length) (h : (l[k].eg == 0) = false) (h1 : (kd == 0) = true ∨ (ifKind t l[k].asn l[k].eg == kd) = true) : kindGo t kd (l.drop k) = kindGo t (ifKind t l[k].asn l[k].eg) (l.drop (k + 1)) := by
 rw [List.drop_eq_getElem_cons hk]; conv => lhs; unfold kindGo
 rcases h1 with h1 | h1 <;> simp [h, bne, h1]
set_option maxRecDepth 100000 in
set_option maxHeartbeats 1000000 in
theorem s_FirstAS (s : Seg) (v : Value) (w : World) (r : RdS Hop.rep w v s.hops) (h0 : 0 < s.hops.length) (q : Int) (hq : s.hops[0].asn = q) :
  Calls Tryz.prog 204 #[.agg #[.int .i64 s.ts, .int .i64 s.beta, v]] w fun e w' => e = .returned (.int .i64 (q)) ∧ Ext w w' := by
 obtain ⟨o, cap, rfl, hsm⟩ := r.shape; have hx0 : Ext w (w.alloc (.cells #[.int .i64 s.ts, .int .i64 s.beta, .slice o s.hops.length cap] 203)) := (Ext.refl _).alloc _; have HB0 := Lib.hid (blk_new w (.cells #[.int .i64 s.ts, .int .i64 s.beta, .slice o s.hops.length cap] 203))
 go_enter Tryz.func204, Tryz.ntmps204
 obtain ⟨b, off, rfl, hc⟩ := Hop.at (r.ext hx0) 0 h0; simp only [Nat.zero_mul, Nat.add_zero] at hc; have h1 : ((s.hops.length : Int) == 0) = false := by simp; exact List.ne_nil_of_length_pos h0
 have h2 : (0 : Int) < (s.hops.length : Int) := by omega
 have HE := Lib.hid hq; clear hq; have cf1 := blk3 HB0.out
 go_wp2_with fail
 go_ret
 exact ⟨ret_int HE.out, hx0⟩
set_option maxRecDepth 100000 in
set_option maxHeartbeats 8000000 in
theorem s_SegmentKind (t : Topo) (v1 v2 : Value) (s : Seg) (v : Value)  (w : World) (ha : RdS ASd.rep w v1 t.ases) (hk : RdS Lnk.rep w v2 t.links) (r : RdS Hop.rep w v s.hops) (hl : s.hops.length ≤ 1048576) :
  Calls Tryz.prog 245 #[.agg #[v1, v2], .agg #[.int .i64 s.ts, .int .i64 s.beta, v]] w fun e w' => e = .returned (.int .i64 (segKind t s)) ∧ Ext w w' := by
 obtain ⟨o, cap, rfl, hsm⟩ := r.shape; have hx0 := ext2 w (.cells #[v1, v2] 56) (.cells #[.int .i64 s.ts, .int .i64 s.beta, .slice o s.hops.length cap] 203); have HB0 := Lib.hid (al2 w (.cells #[v1, v2] 56) (.cells #[.int .i64 s.ts, .int .i64 s.beta, .slice o s.hops.length cap] 203))
 go_enter Tryz.func245, Tryz.ntmps245
 obtain ⟨W0, hW0⟩ : ∃ W0 : World, W0 = ((w.alloc (.cells #[v1, v2] 56)).alloc (.cells #[.int .i64 s.ts, .int .i64 s.beta, .slice o s.hops.length cap] 203)) := ⟨_, rfl⟩
 rw [← hW0] at hx0 HB0; obtain ⟨oA, cA, rfl, _⟩ := ha.shape; have cf1 := blk2 HB0.out.1; have cf2 := blk3 HB0.out.2
 go_wp2_with fail
 rw [← hW0]; clear hW0
 cases bb : wfSeg t s
 ·
  have HE := Lib.hid (show segKind t s = 0 by unfold segKind; rw [bb]; rfl); have cf3 := blk2 HB0.out.1; have cf4 := blk3 HB0.out.2
  go_wp2_with fail
  refine wp_region_ext (by kernel_rfl) (by kernel_rfl) ?_; have q0 := ExtW.cell (cf3.1); have q1 := ExtW.cell (cf3.2); have q2 := ExtW.cell (cf4.1); have q3 := ExtW.cell (cf4.2.1); have q4 := ExtW.cell (cf4.2.2)
  repeat (first | go_big_quiet_step (((first | (go_at_call 258; exact Calls.ext_of (s_WellFormed t _ _ s _ _ ((ha.ext hx0).ext (ExtW.h _)) ((hk.ext hx0).ext (ExtW.h _)) ((r.ext hx0).ext (ExtW.h _)) hl))))) | quiet_step (((first | (go_at_call 258; exact Calls.ext_of (s_WellFormed t _ _ s _ _ ((ha.ext hx0).ext (ExtW.h _)) ((hk.ext hx0).ext (ExtW.h _)) ((r.ext hx0).ext (ExtW.h _)) hl))))))
  refine wpQuiet_nil ?_; intro w1 hw1; have hz1 := ExtW.out hw1; clear hw1 q0 q1 q2 q3 q4
  go_wp2_with fail
  go_ret
  exact ⟨ret_int HE.out.symm, (hx0.t hz1)⟩
 ·
  obtain ⟨h0, hA⟩ := wf_facts bb; obtain ⟨b, off, rfl, hc0⟩ := Hop.at (r.ext hx0) 0 h0; have h00 : (0 : Int) < (s.hops.length : Int) := by omega
  simp only [Nat.zero_mul, Nat.add_zero] at hc0; have hx00 : hopAt s.hops 0 = s.hops[0] := hopAt_at h0; rw [hx00] at hA; have HX0 := Lib.hid hx00; clear hx00; obtain ⟨hp1, hp2⟩ := isAs_lt hA; have hp3 : s.hops[0].asn < t.ases.length := by omega
  obtain ⟨bA, offA, rfl, hcA⟩ := ASd.at (ha.ext hx0) s.hops[0].asn.toNat hp2; have HC := Lib.hid (show (asAt t s.hops[0].asn).core = t.ases[s.hops[0].asn.toNat].core by rw [asAt_at hp1 hp2])
  cases bc : t.ases[s.hops[0].asn.toNat].core
  ·
   have HE := Lib.hid (show segKind t s = 0 by unfold segKind; rw [HX0.out, HC.out, bc, bb]; rfl)
   try clear cf1
   try clear cf2
   have cf5 := blk2 HB0.out.1; have cf6 := blk3 HB0.out.2
   go_wp2_with fail
   refine wp_region_ext (by kernel_rfl) (by kernel_rfl) ?_; have q0 := ExtW.cell (cf5.1); have q1 := ExtW.cell (cf5.2); have q2 := ExtW.cell (cf6.1); have q3 := ExtW.cell (cf6.2.1); have q4 := ExtW.cell (cf6.2.2); have q5 := ExtW.cell (hc0.1); have q6 := ExtW.cell (hc0.2.1); have q7 := ExtW.cell (hc0.2.2.1); have q8 := ExtW.cell (hc0.2.2.2.1); have q9 := ExtW.cell (hc0.2.2.2.2); have q10 := ExtW.cell (hcA.1); have q11 := ExtW.cell (hcA.2.1); have q12 := ExtW.cell (hcA.2.2)
   repeat (first | go_big_quiet_step (((first | (go_at_call 258; exact Calls.ext_of (s_WellFormed t _ _ s _ _ ((ha.ext hx0).ext (ExtW.h _)) ((hk.ext hx0).ext (ExtW.h _)) ((r.ext hx0).ext (ExtW.h _)) hl)) | (go_at_call 204; exact Calls.ext_of (s_FirstAS s _ _ ((r.ext hx0).ext (ExtW.h _)) h0 _ rfl))))) | quiet_step (((first | (go_at_call 258; exact Calls.ext_of (s_WellFormed t _ _ s _ _ ((ha.ext hx0).ext (ExtW.h _)) ((hk.ext hx0).ext (ExtW.h _)) ((r.ext hx0).ext (ExtW.h _)) hl)) | (go_at_call 204; exact Calls.ext_of (s_FirstAS s _ _ ((r.ext hx0).ext (ExtW.h _)) h0 _ rfl))))))
   refine wpQuiet_nil ?_; intro w2 hw2; have hz2 := ExtW.out hw2; clear hw2 q0 q1 q2 q3 q4 q5 q6 q7 q8 q9 q10 q11 q12
   go_wp2_with fail
   go_ret
   exact ⟨ret_int HE.out.symm, (hx0.t hz2)⟩
  ·
   have HE := Lib.hid (show segKind t s = kindGo t 0 (s.hops.drop 0) by unfold segKind; rw [HX0.out, HC.out, bc, bb]; rfl)
   try clear cf1
   try clear cf2
   have cf7 := blk2 HB0.out.1; have cf8 := blk3 HB0.out.2
   go_wp2_with fail
   refine wp_region_ext (by kernel_rfl) (by kernel_rfl) ?_; have q0 := ExtW.cell (cf7.1); have q1 := ExtW.cell (cf7.2); have q2 := ExtW.cell (cf8.1); have q3 := ExtW.cell (cf8.2.1); have q4 := ExtW.cell (cf8.2.2); have q5 := ExtW.cell (hc0.1); have q6 := ExtW.cell (hc0.2.1); have q7 := ExtW.cell (hc0.2.2.1); have q8 := ExtW.cell (hc0.2.2.2.1); have q9 := ExtW.cell (hc0.2.2.2.2); have q10 := ExtW.cell (hcA.1); have q11 := ExtW.cell (hcA.2.1); have q12 := ExtW.cell (hcA.2.2)
   repeat (first | go_big_quiet_step (((first | (go_at_call 258; exact Calls.ext_of (s_WellFormed t _ _ s _ _ ((ha.ext hx0).ext (ExtW.h _)) ((hk.ext hx0).ext (ExtW.h _)) ((r.ext hx0).ext (ExtW.h _)) hl)) | (go_at_call 204; exact Calls.ext_of (s_FirstAS s _ _ ((r.ext hx0).ext (ExtW.h _)) h0 _ rfl))))) | quiet_step (((first | (go_at_call 258; exact Calls.ext_of (s_WellFormed t _ _ s _ _ ((ha.ext hx0).ext (ExtW.h _)) ((hk.ext hx0).ext (ExtW.h _)) ((r.ext hx0).ext (ExtW.h _)) hl)) | (go_at_call 204; exact Calls.ext_of (s_FirstAS s _ _ ((r.ext hx0).ext (ExtW.h _)) h0 _ rfl))))))
   refine wpQuiet_nil ?_; intro w3 hw3; have hz3 := ExtW.out hw3; clear hw3 q0 q1 q2 q3 q4 q5 q6 q7 q8 q9 q10 q11 q12
   try clear cf7
   try clear cf8
   have cf9 := blk2 (Ext.block hz3 HB0.out.1); have cf10 := blk3 (Ext.block hz3 HB0.out.2)
   go_wp2_with fail
   clear hc0 hcA bc bb hA
   go_loopg [5, 6] s.hops.length (fun gk kd i wr => ∃ (k : Nat) (n : Int), gk + k = s.hops.length ∧ kd = .int .i64 n ∧ i = .int .i64 k ∧ Hid (segKind t s = kindGo t n (s.hops.drop k)) ∧ Ext w3 wr)
   case atStart => exact ⟨0, 0, by omega, rfl, rfl, HE, Ext.refl _⟩
   case round =>
    obtain ⟨k, n, hgk, rfl, rfl, HK, hx⟩ := hrel; have HGK := Lib.hid hgk; clear hgk; have hkl : k ≤ s.hops.length := by have h1 := HGK.out; omega
    by_cases hlt : k < s.hops.length
    ·
     obtain ⟨b', off', hbo, hc⟩ := Hop.at (r.ext ((hx0.t hz3).t hx)) k hlt
     cases hbo
     have h4 : (k : Int) < (s.hops.length : Int) := by omega
     cases b5 : (s.hops[k].eg == 0)
     ·
      try clear cf9
      try clear cf10
      have cf11 := blk2 (Ext.block (hz3.t hx) HB0.out.1); have cf12 := blk3 (Ext.block (hz3.t hx) HB0.out.2)
      go_upto_region 8 with (fail)
      go_wp2_with fail
      refine wp_region_ext (by kernel_rfl) (by kernel_rfl) ?_; have q0 := ExtW.cell (cf11.1); have q1 := ExtW.cell (cf11.2); have q2 := ExtW.cell (cf12.1); have q3 := ExtW.cell (cf12.2.1); have q4 := ExtW.cell (cf12.2.2); have q5 := ExtW.cell (hc.1); have q6 := ExtW.cell (hc.2.1); have q7 := ExtW.cell (hc.2.2.1); have q8 := ExtW.cell (hc.2.2.2.1); have q9 := ExtW.cell (hc.2.2.2.2)
      repeat (first | go_big_quiet_step (((first | (go_at_call 188; exact Calls.ext_of (s_InterfaceKind t _ _ s.hops[k].asn s.hops[k].eg _ ((hk.ext ((hx0.t hz3).t hx)).ext (ExtW.h _))))))) | quiet_step (((first | (go_at_call 188; exact Calls.ext_of (s_InterfaceKind t _ _ s.hops[k].asn s.hops[k].eg _ ((hk.ext ((hx0.t hz3).t hx)).ext (ExtW.h _))))))))
      refine wpQuiet_nil ?_; intro w4 hw4; have hz4 := ExtW.out hw4; clear hw4 q0 q1 q2 q3 q4 q5 q6 q7 q8 q9; generalize hik : ifKind t s.hops[k].asn s.hops[k].eg = ik; have HIK := Lib.hid hik; clear hik
      cases k0 : (n == 0)
      ·
       have k0' : (n != 0) = true := by simp only [bne, k0]; rfl
       cases k1 : (ik == n)
       ·
        have k1' : (ik != n) = true := by simp only [bne, k1]; rfl
        have HE2 := Lib.hid (HK.out.trans (kind_bad hlt b5 k0 (by rw [HIK.out]; exact k1)))
        try clear cf11
        try clear cf12
        have cf13 := blk2 (Ext.block ((hz3.t hx).t hz4) HB0.out.1); have cf14 := blk3 (Ext.block ((hz3.t hx).t hz4) HB0.out.2); have cf15 := Hop.at_ext hz4 hc
        go_wp2_with fail
        go_ret
        exact ⟨ret_int HE2.out.symm, (((hx0.t hz3).t hx).t hz4)⟩
       ·
        have k1' : (ik != n) = false := by simp only [bne, k1]; rfl
        have HE2 := Lib.hid (HK.out.trans (kind_go hlt b5 (.inr (by rw [HIK.out]; exact k1)))); rw [HIK.out] at HE2
        try clear cf11
        try clear cf12
        have cf16 := blk2 (Ext.block ((hz3.t hx).t hz4) HB0.out.1); have cf17 := blk3 (Ext.block ((hz3.t hx).t hz4) HB0.out.2); have cf18 := Hop.at_ext hz4 hc
        go_wp2_with fail
        go_roundg (gk - 1)
        case measure => have h1 := HGK.out; omega
        case rel => exact ⟨k + 1, _, by have h1 := HGK.out; omega, rfl, congrArg (Value.int .i64) (by first | omega | (unfold wrap64; omega)), HE2, (hx.t hz4)⟩
      ·
       have k0' : (n != 0) = false := by simp only [bne, k0]; rfl
       have HE2 := Lib.hid (HK.out.trans (kind_go hlt b5 (.inl k0))); rw [HIK.out] at HE2
       try clear cf11
       try clear cf12
       have cf19 := blk2 (Ext.block ((hz3.t hx).t hz4) HB0.out.1); have cf20 := blk3 (Ext.block ((hz3.t hx).t hz4) HB0.out.2); have cf21 := Hop.at_ext hz4 hc
       go_wp2_with fail
       go_roundg (gk - 1)
       case measure => have h1 := HGK.out; omega
       case rel => exact ⟨k + 1, _, by have h1 := HGK.out; omega, rfl, congrArg (Value.int .i64) (by first | omega | (unfold wrap64; omega)), HE2, (hx.t hz4)⟩
     ·
      have HE2 := Lib.hid (HK.out.trans (kind_skip (t := t) hlt b5))
      try clear cf9
      try clear cf10
      have cf22 := blk2 (Ext.block (hz3.t hx) HB0.out.1); have cf23 := blk3 (Ext.block (hz3.t hx) HB0.out.2)
      go_wp2_with fail
      go_roundg (gk - 1)
      case measure => have h1 := HGK.out; omega
      case rel => exact ⟨k + 1, _, by have h1 := HGK.out; omega, rfl, congrArg (Value.int .i64) (by first | omega | (unfold wrap64; omega)), HE2, hx⟩
    ·
     obtain rfl : k = s.hops.length := by omega
     have HE2 : Hid (segKind t s = if n == 1 then 1 else if n == 2 then 2 else 0) := Lib.hid (by rw [HK.out, List.drop_length]; rfl)
     cases k1 : (n == 1)
     ·
      cases k2 : (n == 2)
      ·
       try clear cf9
       try clear cf10
       have cf24 := blk2 (Ext.block (hz3.t hx) HB0.out.1); have cf25 := blk3 (Ext.block (hz3.t hx) HB0.out.2)
       go_wp2_with fail
       go_ret
       exact ⟨ret_int (by rw [HE2.out, k1, k2]; rfl), ((hx0.t hz3).t hx)⟩
      ·
       try clear cf9
       try clear cf10
       have cf26 := blk2 (Ext.block (hz3.t hx) HB0.out.1); have cf27 := blk3 (Ext.block (hz3.t hx) HB0.out.2)
       go_wp2_with fail
       go_ret
       exact ⟨ret_int (by rw [HE2.out, k1, k2]; rfl), ((hx0.t hz3).t hx)⟩
     ·
      try clear cf9
      try clear cf10
      have cf28 := blk2 (Ext.block (hz3.t hx) HB0.out.1); have cf29 := blk3 (Ext.block (hz3.t hx) HB0.out.2)
      go_wp2_with fail
      go_ret
      exact ⟨ret_int (by rw [HE2.out, k1]; rfl), ((hx0.t hz3).t hx)⟩
end
section
open Go.ChangeShapes Go.WideShapes Go.ChangeAt Go.RowKit Go.Deep
set_option maxRecDepth 100000 in
set_option maxHeartbeats 4000000 in
theorem s_ValidSegment (t : Topo) (v1 v2 : Value) (s : Seg) (v : Value)  (w : World) (ha : RdS ASd.rep w v1 t.ases) (hk : RdS Lnk.rep w v2 t.links) (r : RdS Hop.rep w v s.hops) (hl : s.hops.length ≤ 1048576) :
  Calls Tryz.prog 242 #[.agg #[v1, v2], .agg #[.int .i64 s.ts, .int .i64 s.beta, v]] w fun e w' => e = .returned (.bool (validSeg t s)) ∧ Ext w w' := by
 obtain ⟨o, cap, rfl, hsm⟩ := r.shape; have hx0 := ext2 w (.cells #[v1, v2] 56) (.cells #[.int .i64 s.ts, .int .i64 s.beta, .slice o s.hops.length cap] 203); have HB0 := Lib.hid (al2 w (.cells #[v1, v2] 56) (.cells #[.int .i64 s.ts, .int .i64 s.beta, .slice o s.hops.length cap] 203))
 go_enter Tryz.func242, Tryz.ntmps242
 obtain ⟨W0, hW0⟩ : ∃ W0 : World, W0 = ((w.alloc (.cells #[v1, v2] 56)).alloc (.cells #[.int .i64 s.ts, .int .i64 s.beta, .slice o s.hops.length cap] 203)) := ⟨_, rfl⟩
 rw [← hW0] at hx0 HB0; have cf1 := blk2 HB0.out.1; have cf2 := blk3 HB0.out.2
 go_wp2_with fail
 rw [← hW0]; clear hW0; refine (s_WellFormed t _ _ s _ _ (ha.ext hx0) (hk.ext hx0) (r.ext hx0) hl).mono ?_; rintro e w1 ⟨rfl, hz1⟩
 cases b1 : wfSeg t s
 ·
  have HE := Lib.hid (show validSeg t s = false by simp [validSeg, b1])
  try clear cf1
  try clear cf2
  have cf3 := blk2 (Ext.block hz1 HB0.out.1); have cf4 := blk3 (Ext.block hz1 HB0.out.2)
  go_wp2_with fail
  go_ret
  exact ⟨ret_bool HE.out.symm, (hx0.t hz1)⟩
 ·
  try clear cf1
  try clear cf2
  have cf5 := blk2 (Ext.block hz1 HB0.out.1); have cf6 := blk3 (Ext.block hz1 HB0.out.2)
  go_wp2_with fail
  refine (s_FirstInvalidHop t _ _ s _ _ (ha.ext (hx0.t hz1)) (r.ext (hx0.t hz1)) hl).mono ?_; rintro e w2 ⟨rfl, hz2⟩
  cases b2 : decide (firstBad t s < 0)
  ·
   have HE := Lib.hid (show validSeg t s = false by simp [validSeg, b2])
   try clear cf5
   try clear cf6
   have cf7 := blk2 (Ext.block (hz1.t hz2) HB0.out.1); have cf8 := blk3 (Ext.block (hz1.t hz2) HB0.out.2)
   go_wp2_with fail
   go_ret
   exact ⟨ret_bool HE.out.symm, ((hx0.t hz1).t hz2)⟩
  ·
   try clear cf5
   try clear cf6
   have cf9 := blk2 (Ext.block (hz1.t hz2) HB0.out.1); have cf10 := blk3 (Ext.block (hz1.t hz2) HB0.out.2)
   go_wp2_with fail
   refine (s_SegmentKind t _ _ s _ _ (ha.ext ((hx0.t hz1).t hz2)) (hk.ext ((hx0.t hz1).t hz2)) (r.ext ((hx0.t hz1).t hz2)) hl).mono ?_; rintro e w3 ⟨rfl, hz3⟩
   cases b3 : (segKind t s == 0)
   ·
    have b3' : (segKind t s != 0) = true := by simp only [bne, b3]; rfl
    try clear cf9
    try clear cf10
    have cf11 := blk2 (Ext.block ((hz1.t hz2).t hz3) HB0.out.1); have cf12 := blk3 (Ext.block ((hz1.t hz2).t hz3) HB0.out.2)
    go_wp2_with fail
    refine (s_l1In _ _ _ _).mono ?_; rintro e _ ⟨rfl, rfl⟩
    cases b4 : inR s.ts 0 1000000
    ·
     have HE := Lib.hid (show validSeg t s = false by simp [validSeg, b4])
     go_wp2_with fail
     go_ret
     exact ⟨ret_bool HE.out.symm, (((hx0.t hz1).t hz2).t hz3)⟩
    ·
     go_wp2_with fail
     refine (s_l3Ok _ _).mono ?_; rintro e _ ⟨rfl, rfl⟩; have HE := Lib.hid (show validSeg t s = isRes s.beta by unfold validSeg; rw [b1, b2, b3', b4]; rfl)
     go_wp2_with fail
     go_ret
     exact ⟨ret_bool HE.out.symm, (((hx0.t hz1).t hz2).t hz3)⟩
   ·
    have b3' : (segKind t s != 0) = false := by simp only [bne, b3]; rfl
    have HE := Lib.hid (show validSeg t s = false by simp [validSeg, b3'])
    try clear cf9
    try clear cf10
    have cf13 := blk2 (Ext.block ((hz1.t hz2).t hz3) HB0.out.1); have cf14 := blk3 (Ext.block ((hz1.t hz2).t hz3) HB0.out.2)
    go_wp2_with fail
    go_ret
    exact ⟨ret_bool HE.out.symm, (((hx0.t hz1).t hz2).t hz3)⟩
set_option maxHeartbeats 400000 in
theorem s_Min (a b : Int) (w : World) :
  Calls Tryz.prog 162 #[.int .i64 a, .int .i64 b] w fun e w' => e = .returned (.int .i64 (if b < a then b else a)) ∧ w = w' := by
 go_enter Tryz.func162, Tryz.ntmps162
 by_cases h : b < a
 ·
  go_wp2_with fail
  go_ret
  exact ⟨ret_int (by first | rfl | simp [*]), rfl⟩
 ·
  go_wp2_with fail
  go_ret
  exact ⟨ret_int (by first | rfl | simp [*]), rfl⟩
theorem strip_set {l xs : List Hop} {k : Nat} (h : xs.take k = (strip l).take k) (h2 : xs.drop k = l.drop k) (hk : k < l.length) (hx : xs.length = l.length) : (xs.set k { xs[k]'(by omega) with mac := 0 }).take (k + 1) = (strip l).take (k + 1) ∧ (xs.set k { xs[k]'(by omega) with mac := 0 }).drop (k + 1) = l.drop (k + 1) := by
 have hxk : xs[k]'(by omega) = l[k] := by
  have := congrArg List.head? h2; rw [List.head?_drop, List.head?_drop, List.getElem?_eq_getElem (by omega), List.getElem?_eq_getElem hk] at this; exact Option.some.inj this
 have hsl : (strip l).length = l.length := by simp [strip]
 constructor
 ·
  rw [List.take_succ_eq_append_getElem (by simp; omega), List.take_succ_eq_append_getElem (by omega), List.take_set_of_le (Nat.le_refl _), h]
  simp [strip, hxk]
 ·
  rw [List.drop_set_of_lt (by omega)]; have h3 := congrArg (List.drop 1) h2
  simpa [List.drop_drop, Nat.add_comm] using h3
end
end Go.Proofs.YtcpfmhgfaliemaaGreat
