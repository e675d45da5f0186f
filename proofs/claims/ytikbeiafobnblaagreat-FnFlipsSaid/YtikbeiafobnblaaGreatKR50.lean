/- What these laws need: FnFlips: The least expiry of a row of hop fields. Contracts of the tests of whole paths: order of parts, interfaces, codes, expiry, program and reference. Contracts of simple, verified and usable paths, program and reference. Paths turned around: twice is once none; what is usable stays so; the steps come back to front. -/
import Derived.Deep.LoopGhost
import Derived.Test.YtikbeiafobnblaaGreatKR16
import Derived.Test.YtikbeiafobnblaaGreatKR30
import Derived.Test.YtikbeiafobnblaaGreatKR33
import Derived.Test.YtikbeiafobnblaaGreatKR48
import Derived.Test.YtikbeiafobnblaaGreatKR49
namespace Go.Proofs.YtikbeiafobnblaaGreat
section
open Go.ChangeShapes Go.WideShapes Go.ChangeAt Go.RowKit Go.Deep
theorem least_snoc {l : List Hop} {k : Nat} (hk : k < l.length) : leastExp (l.take (k + 1)) = if k = 0 ∨ l[k].exp < leastExp (l.take k) then l[k].exp else leastExp (l.take k) := by
 cases l with
 | nil => simp at hk
 | cons x l =>
  cases k with
  | zero => simp [leastExp]
  | succ k =>
   have hk' : k < l.length := by simpa using hk
   simp only [List.take_succ_cons, leastExp, List.getElem_cons_succ]
   rw [List.take_succ_eq_append_getElem hk', List.foldl_append]
   simp
set_option maxRecDepth 100000 in
set_option maxHeartbeats 2000000 in
theorem i_leastExpiry (l : List Hop) (v : Value) (w : World) (hv : RdS Hop.rep w v l) :
  Calls Tryz.prog 157 #[v] w fun e w' => e = .returned (.int .i64 (leastExp l)) ∧ Ext w w' := by
 obtain ⟨o, cap, rfl, hsm⟩ := hv.shape
 go_enter Tryz.func157, Tryz.ntmps157
 go_wp2
 go_loopg [3, 8] l.length (fun gk n i wr => ∃ k : Nat, gk + k = l.length ∧ i = .int .i64 k ∧ n = .int .i64 (leastExp (l.take k)) ∧ Ext w wr)
 case atStart => exact ⟨0, rfl, rfl, rfl, Ext.refl _⟩
 case round =>
  obtain ⟨k, hgk, rfl, rfl, hx⟩ := hrel
  by_cases hlt : k < l.length
  ·
   have HG := Lib.hid (show gk - 1 + (k + 1) = l.length ∧ gk - 1 < gk by omega); clear hgk
   have HS := Lib.hid (least_snoc hlt)
   obtain ⟨b, off, rfl, hc⟩ := Hop.at (hv.ext hx) k hlt
   generalize leastExp (l.take k) = m at *
   by_cases h0 : k = 0
   ·
    have h1 : ((k : Int) == 0) = true := by rw [h0]; rfl
    have HE := Lib.hid (HS.out.trans (if_pos (.inl h0)))
    clear h0
    go_wp2
    go_roundg (gk - 1)
    case measure => exact HG.out.2
    case rel => exact ⟨k + 1, HG.out.1, by go_num, by rw [HE.out], hx.alloc _⟩
   ·
    have h1 : ((k : Int) == 0) = false := by rw [beq_eq_false_iff_ne]; omega
    by_cases h2 : l[k].exp < m
    ·
     have HE := Lib.hid (HS.out.trans (if_pos (.inr h2)))
     clear h0
     go_wp2
     go_roundg (gk - 1)
     case measure => exact HG.out.2
     case rel => exact ⟨k + 1, HG.out.1, by go_num, by rw [HE.out], hx.alloc _⟩
    ·
     have HE := Lib.hid (HS.out.trans (if_neg (show ¬ (k = 0 ∨ l[k].exp < m) by omega)))
     clear h0
     go_wp2
     go_roundg (gk - 1)
     case measure => exact HG.out.2
     case rel => exact ⟨k + 1, HG.out.1, by go_num, by rw [HE.out], hx.alloc _⟩
  ·
   have HE := Lib.hid (show leastExp (l.take k) = leastExp l by rw [List.take_of_length_le (by omega)])
   generalize leastExp (l.take k) = m at *
   go_wp2_with fail
   go_ret
   exact ⟨ret_int HE.out, hx⟩
end
section
open Go.ChangeShapes Go.WideShapes Go.ChangeAt Go.RowKit Go.Deep
theorem betaFor_yes {x : Part} {k : Nat} (h : isRev x.kind = true) : betaFor x k = betaAfter x ((k : Int) + 1) := by unfold betaFor; rw [if_pos h]; push_cast; rfl
theorem betaFor_no {x : Part} {k : Nat} (h : isRev x.kind = false) : betaFor x k = betaAfter x (k : Int) := by unfold betaFor; rw [if_neg (by rw [h]; decide)]
theorem simple_valid {t : Topo} {p : Pth} (h : simple t p = true) {j : Nat} (hj : j < p.parts.length) : validPart t p.parts[j] = true := by
 unfold simple wfPath at h
 simp only [Bool.and_eq_true] at h
 exact partOk_valid h.1.2 hj hj
end
section
open Go.ChangeShapes Go.WideShapes Go.ChangeAt Go.RowKit Go.Deep
theorem verPart_no {t : Topo} {x : Part} {k : Nat} (hk : k < x.hops.length) (h : verHop t x.ts (betaFor x k) x.hops[k] = false) : verPart t x = false := by
 unfold verPart; exact allTo_no hk (by rw [hopAt_at hk]; exact h)
theorem verPath_no {t : Topo} {p : Pth} {k : Nat} (hk : k < p.parts.length) (h : verPart t p.parts[k] = false) : verPath t p = false := by
 unfold verPath; exact allTo_no hk (by rw [partAt_at hk]; exact h)
theorem usable_no {t : Topo} {p : Pth} {now : Int} {k : Nat} (hk : k < p.parts.length) (h : partIn' now p.parts[k] = false) : usable t p now = false := by
 unfold usable; rw [allTo_no hk (by rw [partAt_at hk]; exact h)]; simp
theorem revPath_sizeB (x : Pth) : (revPath x).size = x.size := by unfold Pth.size revPath; dsimp only; rw [revParts_len, revParts_hops]
def bidir (t : Topo) (p : Pth) (now : Int) : Bool := usable t p now && usable t (revPath p) now
set_option maxHeartbeats 1000000 in
theorem s_l21Beta (x : Part) (v : Value) (k : Nat) (w : World) (r : RdS Hop.rep w v x.hops) (hk : (k : Int) < 9223372036854775807) :
  Calls Tryz.prog 296 #[.agg #[.int .i64 x.kind, .int .i64 x.ts, .int .i64 x.beta, v], .int .i64 k] w fun e w' => e = .returned (.int .i64 (betaFor x k)) ∧ Ext w w' := by
 have hx0 : Ext w (w.alloc (.cells #[.int .i64 x.kind, .int .i64 x.ts, .int .i64 x.beta, v] 47)) := (Ext.refl _).alloc _
 have HB0 := Lib.hid (blk_new w (.cells #[.int .i64 x.kind, .int .i64 x.ts, .int .i64 x.beta, v] 47))
 go_enter Tryz.func296, Tryz.ntmps296
 have cf1 := blk4 HB0.out
 go_wp2_with fail
 refine (s_IsReversed _ _).mono ?_
 rintro e _ ⟨rfl, rfl⟩
 cases b1 : isRev x.kind
 ·
  have HE := Lib.hid (betaFor_no (k := k) b1)
  go_wp2_with fail
  refine (s_BetaAfter x _ (k : Int) _ (r.ext hx0)).mono ?_
  rintro e w2 ⟨rfl, hz2⟩
  try clear cf1
  have cf2 := blk4 (Ext.block hz2 HB0.out)
  go_wp2_with fail
  go_ret
  exact ⟨ret_int HE.out.symm, (hx0.trans hz2)⟩
 ·
  have HE := Lib.hid (betaFor_yes (k := k) b1)
  go_wp2_with fail
  refine (s_BetaAfter x _ ((k : Int) + 1) _ (r.ext hx0)).mono ?_
  rintro e w3 ⟨rfl, hz3⟩
  try clear cf1
  have cf3 := blk4 (Ext.block hz3 HB0.out)
  go_wp2_with fail
  go_ret
  exact ⟨ret_int HE.out.symm, (hx0.trans hz3)⟩
set_option maxRecDepth 100000 in
set_option maxHeartbeats 4000000 in
theorem i_VerifyPart (t : Topo) (v1 v2 : Value) (x : Part) (v : Value) (w : World) (ha : RdS ASd.rep w v1 t.ases) (r : RdS Hop.rep w v x.hops) :
  Calls Tryz.prog 158 #[.agg #[v1, v2], .agg #[.int .i64 x.kind, .int .i64 x.ts, .int .i64 x.beta, v]] w fun e w' => e = .returned (.bool (verPart t x)) ∧ Ext w w' := by
 obtain ⟨o, cap, rfl, hsm⟩ := r.shape
 have hx0 := ext2 w (.cells #[v1, v2] 33) (.cells #[.int .i64 x.kind, .int .i64 x.ts, .int .i64 x.beta, .slice o x.hops.length cap] 47)
 have HB0 := Lib.hid (al2 w (.cells #[v1, v2] 33) (.cells #[.int .i64 x.kind, .int .i64 x.ts, .int .i64 x.beta, .slice o x.hops.length cap] 47))
 go_enter Tryz.func158, Tryz.ntmps158
 obtain ⟨W0, hW0⟩ : ∃ W0 : World, W0 = (w.alloc (.cells #[v1, v2] 33)).alloc (.cells #[.int .i64 x.kind, .int .i64 x.ts, .int .i64 x.beta, .slice o x.hops.length cap] 47) := ⟨_, rfl⟩
 rw [← hW0] at hx0 HB0
 have cf1 := blk2 HB0.out.1
 have cf2 := blk4 HB0.out.2
 go_wp2_with fail
 rw [← hW0]
 clear hW0
 go_loopg [11] x.hops.length (fun gk i wr => ∃ k : Nat, gk + k = x.hops.length ∧ i = .int .i64 k ∧ Hid (allTo (fun i => verHop t x.ts (betaFor x i) (hopAt x.hops i)) k = true) ∧ Ext W0 wr)
 case atStart => exact ⟨0, rfl, rfl, Lib.hid rfl, Ext.refl _⟩
 case round =>
  obtain ⟨k, hgk, rfl, HK, hx⟩ := hrel
  by_cases hlt : k < x.hops.length
  ·
   have HG := Lib.hid (show gk - 1 + (k + 1) = x.hops.length ∧ gk - 1 < gk by omega); clear hgk
   have HAT := Lib.hid (hopAt_at hlt)
   obtain ⟨b, off, rfl, hc⟩ := Hop.at (r.ext (hx0.trans hx)) k hlt
   have h4 : (k : Int) < (x.hops.length : Int) := by omega
   try clear cf1
   try clear cf2
   have cf3 := blk2 (Ext.block hx HB0.out.1)
   have cf4 := blk4 (Ext.block hx HB0.out.2)
   have hx1 : Ext wr (wr.alloc (.cells #[.int .i64 x.hops[k].asn, .int .i64 x.hops[k].ing, .int .i64 x.hops[k].eg, .int .i64 x.hops[k].exp, .int .i64 x.hops[k].mac] 44)) := (Ext.refl _).alloc _
   have HB1 := Lib.hid (blk_new wr (.cells #[.int .i64 x.hops[k].asn, .int .i64 x.hops[k].ing, .int .i64 x.hops[k].eg, .int .i64 x.hops[k].exp, .int .i64 x.hops[k].mac] 44))
   have cf5 := blk2 (Ext.block (hx.trans hx1) HB0.out.1)
   have cf6 := blk4 (Ext.block (hx.trans hx1) HB0.out.2)
   have cf7 := blk5 HB1.out
   have cf8 := Hop.at_ext hx1 hc
   go_wp2_with fail
   refine (i_BetaAfter x _ (k : Int) _ (r.ext ((hx0.trans hx).trans hx1))).mono ?_
   rintro e w1 ⟨rfl, hz1⟩
   try clear cf5
   try clear cf6
   try clear cf7
   try clear cf8
   have cf9 := blk2 (Ext.block ((hx.trans hx1).trans hz1) HB0.out.1)
   have cf10 := blk4 (Ext.block ((hx.trans hx1).trans hz1) HB0.out.2)
   have cf11 := blk5 (Ext.block hz1 HB1.out)
   have cf12 := Hop.at_ext (hx1.trans hz1) hc
   go_wp2_with fail
   refine (i_IsReversed _ _).mono ?_
   rintro e _ ⟨rfl, rfl⟩
   cases b0 : isRev x.kind
   ·
    have HBF := Lib.hid (betaFor_no (k := k) b0)
    rw [← HBF.out]
    generalize hbe : betaFor x k = be at *
    have HBE := Lib.hid hbe; clear hbe HBF
    go_wp2_with fail
    refine (i_VerifyHop t _ _ _ be x.hops[k] _ (ha.ext (((hx0.trans hx).trans hx1).trans hz1))).mono ?_
    rintro e w3 ⟨rfl, hz3⟩
    rw [← HBE.out]
    clear HBE
    cases b1 : verHop t x.ts (betaFor x k) x.hops[k]
    ·
     have HE := Lib.hid (verPart_no hlt b1)
     try clear cf9
     try clear cf10
     try clear cf11
     try clear cf12
     have cf13 := blk2 (Ext.block (((hx.trans hx1).trans hz1).trans hz3) HB0.out.1)
     have cf14 := blk4 (Ext.block (((hx.trans hx1).trans hz1).trans hz3) HB0.out.2)
     have cf15 := blk5 (Ext.block (hz1.trans hz3) HB1.out)
     have cf16 := Hop.at_ext ((hx1.trans hz1).trans hz3) hc
     go_wp2_with fail
     go_ret
     exact ⟨ret_bool HE.out.symm, ((((hx0.trans hx).trans hx1).trans hz1).trans hz3)⟩
    ·
     have HK2 := Lib.hid (allTo_snoc HK.out (show verHop t x.ts (betaFor x k) (hopAt x.hops k) = true by rw [HAT.out]; exact b1))
     try clear cf9
     try clear cf10
     try clear cf11
     try clear cf12
     have cf17 := blk2 (Ext.block (((hx.trans hx1).trans hz1).trans hz3) HB0.out.1)
     have cf18 := blk4 (Ext.block (((hx.trans hx1).trans hz1).trans hz3) HB0.out.2)
     have cf19 := blk5 (Ext.block (hz1.trans hz3) HB1.out)
     have cf20 := Hop.at_ext ((hx1.trans hz1).trans hz3) hc
     go_wp2_with fail
     go_roundg (gk - 1)
     case measure => exact HG.out.2
     case rel => exact ⟨k + 1, HG.out.1, by go_num, HK2, (((hx.trans hx1).trans hz1).trans hz3)⟩
   ·
    go_wp2_with fail
    refine (i_BetaAfter x _ ((k : Int) + 1) _ (r.ext (((hx0.trans hx).trans hx1).trans hz1))).mono ?_
    rintro e w4 ⟨rfl, hz4⟩
    have HBF := Lib.hid (betaFor_yes (k := k) b0)
    rw [← HBF.out]
    generalize hbe : betaFor x k = be at *
    have HBE := Lib.hid hbe; clear hbe HBF
    try clear cf9
    try clear cf10
    try clear cf11
    try clear cf12
    have cf21 := blk2 (Ext.block (((hx.trans hx1).trans hz1).trans hz4) HB0.out.1)
    have cf22 := blk4 (Ext.block (((hx.trans hx1).trans hz1).trans hz4) HB0.out.2)
    have cf23 := blk5 (Ext.block (hz1.trans hz4) HB1.out)
    have cf24 := Hop.at_ext ((hx1.trans hz1).trans hz4) hc
    go_wp2_with fail
    refine (i_VerifyHop t _ _ _ be x.hops[k] _ (ha.ext ((((hx0.trans hx).trans hx1).trans hz1).trans hz4))).mono ?_
    rintro e w5 ⟨rfl, hz5⟩
    rw [← HBE.out]
    clear HBE
    cases b1 : verHop t x.ts (betaFor x k) x.hops[k]
    ·
     have HE := Lib.hid (verPart_no hlt b1)
     try clear cf21
     try clear cf22
     try clear cf23
     try clear cf24
     have cf25 := blk2 (Ext.block ((((hx.trans hx1).trans hz1).trans hz4).trans hz5) HB0.out.1)
     have cf26 := blk4 (Ext.block ((((hx.trans hx1).trans hz1).trans hz4).trans hz5) HB0.out.2)
     have cf27 := blk5 (Ext.block ((hz1.trans hz4).trans hz5) HB1.out)
     have cf28 := Hop.at_ext (((hx1.trans hz1).trans hz4).trans hz5) hc
     go_wp2_with fail
     go_ret
     exact ⟨ret_bool HE.out.symm, (((((hx0.trans hx).trans hx1).trans hz1).trans hz4).trans hz5)⟩
    ·
     have HK2 := Lib.hid (allTo_snoc HK.out (show verHop t x.ts (betaFor x k) (hopAt x.hops k) = true by rw [HAT.out]; exact b1))
     try clear cf21
     try clear cf22
     try clear cf23
     try clear cf24
     have cf29 := blk2 (Ext.block ((((hx.trans hx1).trans hz1).trans hz4).trans hz5) HB0.out.1)
     have cf30 := blk4 (Ext.block ((((hx.trans hx1).trans hz1).trans hz4).trans hz5) HB0.out.2)
     have cf31 := blk5 (Ext.block ((hz1.trans hz4).trans hz5) HB1.out)
     have cf32 := Hop.at_ext (((hx1.trans hz1).trans hz4).trans hz5) hc
     go_wp2_with fail
     go_roundg (gk - 1)
     case measure => exact HG.out.2
     case rel => exact ⟨k + 1, HG.out.1, by go_num, HK2, ((((hx.trans hx1).trans hz1).trans hz4).trans hz5)⟩
  ·
   obtain rfl : k = x.hops.length := by omega
   have HE : Hid (verPart t x = true) := Lib.hid HK.out
   try clear cf1
   try clear cf2
   have cf33 := blk2 (Ext.block hx HB0.out.1)
   have cf34 := blk4 (Ext.block hx HB0.out.2)
   go_wp2_with fail
   go_ret
   exact ⟨ret_bool HE.out.symm, (hx0.trans hx)⟩
set_option maxRecDepth 100000 in
set_option maxHeartbeats 4000000 in
theorem s_VerifyPart (t : Topo) (v1 v2 : Value) (x : Part) (v : Value) (w : World) (ha : RdS ASd.rep w v1 t.ases) (r : RdS Hop.rep w v x.hops) :
  Calls Tryz.prog 274 #[.agg #[v1, v2], .agg #[.int .i64 x.kind, .int .i64 x.ts, .int .i64 x.beta, v]] w fun e w' => e = .returned (.bool (verPart t x)) ∧ Ext w w' := by
 obtain ⟨o, cap, rfl, hsm⟩ := r.shape
 have hx0 := ext2 w (.cells #[v1, v2] 33) (.cells #[.int .i64 x.kind, .int .i64 x.ts, .int .i64 x.beta, .slice o x.hops.length cap] 47)
 have HB0 := Lib.hid (al2 w (.cells #[v1, v2] 33) (.cells #[.int .i64 x.kind, .int .i64 x.ts, .int .i64 x.beta, .slice o x.hops.length cap] 47))
 go_enter Tryz.func274, Tryz.ntmps274
 obtain ⟨W0, hW0⟩ : ∃ W0 : World, W0 = (w.alloc (.cells #[v1, v2] 33)).alloc (.cells #[.int .i64 x.kind, .int .i64 x.ts, .int .i64 x.beta, .slice o x.hops.length cap] 47) := ⟨_, rfl⟩
 rw [← hW0] at hx0 HB0
 have cf1 := blk2 HB0.out.1
 have cf2 := blk4 HB0.out.2
 go_wp2_with fail
 rw [← hW0]
 clear hW0
 go_loopg [5] x.hops.length (fun gk i wr => ∃ k : Nat, gk + k = x.hops.length ∧ i = .int .i64 k ∧ Hid (allTo (fun i => verHop t x.ts (betaFor x i) (hopAt x.hops i)) k = true) ∧ Ext W0 wr)
 case atStart => exact ⟨0, rfl, rfl, Lib.hid rfl, Ext.refl _⟩
 case round =>
  obtain ⟨k, hgk, rfl, HK, hx⟩ := hrel
  by_cases hlt : k < x.hops.length
  ·
   have HG := Lib.hid (show gk - 1 + (k + 1) = x.hops.length ∧ gk - 1 < gk by omega); clear hgk
   have HAT := Lib.hid (hopAt_at hlt)
   obtain ⟨b, off, rfl, hc⟩ := Hop.at (r.ext (hx0.trans hx)) k hlt
   have h4 : (k : Int) < (x.hops.length : Int) := by omega
   try clear cf1
   try clear cf2
   have cf3 := blk2 (Ext.block hx HB0.out.1)
   have cf4 := blk4 (Ext.block hx HB0.out.2)
   go_wp2_with fail
   refine wp_region_ext (by kernel_rfl) (by kernel_rfl) ?_
   have q0 := ExtW.cell (cf3.1)
   have q1 := ExtW.cell (cf3.2)
   have q2 := ExtW.cell (cf4.1)
   have q3 := ExtW.cell (cf4.2.1)
   have q4 := ExtW.cell (cf4.2.2.1)
   have q5 := ExtW.cell (cf4.2.2.2)
   have q6 := ExtW.cell (hc.1)
   have q7 := ExtW.cell (hc.2.1)
   have q8 := ExtW.cell (hc.2.2.1)
   have q9 := ExtW.cell (hc.2.2.2.1)
   have q10 := ExtW.cell (hc.2.2.2.2)
   repeat (first | go_big_quiet_step (((first | (go_at_call 296; exact Calls.ext_of (s_l21Beta x _ k _ ((r.ext (hx0.trans hx)).ext (ExtW.h _)) (by omega))) | (go_at_call 128; exact Calls.ext_of (s_VerifyHop t _ _ _ (betaFor x k) x.hops[k] _ ((ha.ext (hx0.trans hx)).ext (ExtW.h _))))))) | quiet_step (((first | (go_at_call 296; exact Calls.ext_of (s_l21Beta x _ k _ ((r.ext (hx0.trans hx)).ext (ExtW.h _)) (by omega))) | (go_at_call 128; exact Calls.ext_of (s_VerifyHop t _ _ _ (betaFor x k) x.hops[k] _ ((ha.ext (hx0.trans hx)).ext (ExtW.h _))))))))
   refine wpQuiet_nil ?_
   intro w1 hw1
   have hz1 := ExtW.out hw1
   clear hw1 q0 q1 q2 q3 q4 q5 q6 q7 q8 q9 q10
   cases b1 : verHop t x.ts (betaFor x k) x.hops[k]
   ·
    have HE := Lib.hid (verPart_no hlt b1)
    try clear cf3
    try clear cf4
    have cf5 := blk2 (Ext.block (hx.trans hz1) HB0.out.1)
    have cf6 := blk4 (Ext.block (hx.trans hz1) HB0.out.2)
    have cf7 := Hop.at_ext hz1 hc
    go_wp2_with fail
    go_ret
    exact ⟨ret_bool HE.out.symm, ((hx0.trans hx).trans hz1)⟩
   ·
    have HK2 := Lib.hid (allTo_snoc HK.out (show verHop t x.ts (betaFor x k) (hopAt x.hops k) = true by rw [HAT.out]; exact b1))
    try clear cf3
    try clear cf4
    have cf8 := blk2 (Ext.block (hx.trans hz1) HB0.out.1)
    have cf9 := blk4 (Ext.block (hx.trans hz1) HB0.out.2)
    have cf10 := Hop.at_ext hz1 hc
    go_wp2_with fail
    go_roundg (gk - 1)
    case measure => exact HG.out.2
    case rel => exact ⟨k + 1, HG.out.1, by go_num, HK2, (hx.trans hz1)⟩
  ·
   obtain rfl : k = x.hops.length := by omega
   have HE : Hid (verPart t x = true) := Lib.hid HK.out
   try clear cf1
   try clear cf2
   have cf11 := blk2 (Ext.block hx HB0.out.1)
   have cf12 := blk4 (Ext.block hx HB0.out.2)
   go_wp2_with fail
   go_ret
   exact ⟨ret_bool HE.out.symm, (hx0.trans hx)⟩
set_option maxRecDepth 100000 in
set_option maxHeartbeats 4000000 in
theorem i_VerifyPath (t : Topo) (v1 v2 : Value) (p : Pth) (v : Value) (w : World) (ha : RdS ASd.rep w v1 t.ases) (r : RdS Part.rep w v p.parts) :
  Calls Tryz.prog 50 #[.agg #[v1, v2], .agg #[v]] w fun e w' => e = .returned (.bool (verPath t p)) ∧ Ext w w' := by
 obtain ⟨o, cap, rfl, hsm⟩ := r.shape
 have hx0 := ext2 w (.cells #[v1, v2] 33) (.cells #[.slice o p.parts.length cap] 26)
 have HB0 := Lib.hid (al2 w (.cells #[v1, v2] 33) (.cells #[.slice o p.parts.length cap] 26))
 go_enter Tryz.func50, Tryz.ntmps50
 obtain ⟨W0, hW0⟩ : ∃ W0 : World, W0 = (w.alloc (.cells #[v1, v2] 33)).alloc (.cells #[.slice o p.parts.length cap] 26) := ⟨_, rfl⟩
 rw [← hW0] at hx0 HB0
 have cf1 := blk2 HB0.out.1
 have cf2 := blk1 HB0.out.2
 go_wp2_with fail
 rw [← hW0]
 clear hW0
 go_loopg [10] p.parts.length (fun gk i wr => ∃ k : Nat, gk + k = p.parts.length ∧ i = .int .i64 k ∧ Hid (allTo (fun i => verPart t (partAt p.parts i)) k = true) ∧ Ext W0 wr)
 case atStart => exact ⟨0, rfl, rfl, Lib.hid rfl, Ext.refl _⟩
 case round =>
  obtain ⟨k, hgk, rfl, HK, hx⟩ := hrel
  by_cases hlt : k < p.parts.length
  ·
   have HG := Lib.hid (show gk - 1 + (k + 1) = p.parts.length ∧ gk - 1 < gk by omega); clear hgk
   have HAT := Lib.hid (partAt_at hlt)
   obtain ⟨b, off, oh, ch, rfl, hc, hr⟩ := Part.at (r.ext (hx0.trans hx)) k hlt
   have h4 : (k : Int) < (p.parts.length : Int) := by omega
   try clear cf1
   try clear cf2
   have cf3 := blk2 (Ext.block hx HB0.out.1)
   have cf4 := blk1 (Ext.block hx HB0.out.2)
   have hx1 : Ext wr (wr.alloc (.cells #[.int .i64 p.parts[k].kind, .int .i64 p.parts[k].ts, .int .i64 p.parts[k].beta, .slice oh p.parts[k].hops.length ch] 47)) := (Ext.refl _).alloc _
   have HB1 := Lib.hid (blk_new wr (.cells #[.int .i64 p.parts[k].kind, .int .i64 p.parts[k].ts, .int .i64 p.parts[k].beta, .slice oh p.parts[k].hops.length ch] 47))
   have cf5 := blk2 (Ext.block (hx.trans hx1) HB0.out.1)
   have cf6 := blk1 (Ext.block (hx.trans hx1) HB0.out.2)
   have cf7 := blk4 HB1.out
   have cf8 := Part.at_ext hx1 hc
   go_wp2_with fail
   refine (i_VerifyPart t _ _ p.parts[k] _ _ (ha.ext ((hx0.trans hx).trans hx1)) (hr.ext hx1)).mono ?_
   rintro e w1 ⟨rfl, hz1⟩
   cases b1 : verPart t p.parts[k]
   ·
    have HE := Lib.hid (verPath_no hlt b1)
    try clear cf5
    try clear cf6
    try clear cf7
    try clear cf8
    have cf9 := blk2 (Ext.block ((hx.trans hx1).trans hz1) HB0.out.1)
    have cf10 := blk1 (Ext.block ((hx.trans hx1).trans hz1) HB0.out.2)
    have cf11 := blk4 (Ext.block hz1 HB1.out)
    have cf12 := Part.at_ext (hx1.trans hz1) hc
    go_wp2_with fail
    go_ret
    exact ⟨ret_bool HE.out.symm, (((hx0.trans hx).trans hx1).trans hz1)⟩
   ·
    have HK2 := Lib.hid (allTo_snoc HK.out (show verPart t (partAt p.parts k) = true by rw [HAT.out]; exact b1))
    try clear cf5
    try clear cf6
    try clear cf7
    try clear cf8
    have cf13 := blk2 (Ext.block ((hx.trans hx1).trans hz1) HB0.out.1)
    have cf14 := blk1 (Ext.block ((hx.trans hx1).trans hz1) HB0.out.2)
    have cf15 := blk4 (Ext.block hz1 HB1.out)
    have cf16 := Part.at_ext (hx1.trans hz1) hc
    go_wp2_with fail
    go_roundg (gk - 1)
    case measure => exact HG.out.2
    case rel => exact ⟨k + 1, HG.out.1, by go_num, HK2, ((hx.trans hx1).trans hz1)⟩
  ·
   obtain rfl : k = p.parts.length := by omega
   have HE : Hid (verPath t p = true) := Lib.hid HK.out
   try clear cf1
   try clear cf2
   have cf17 := blk2 (Ext.block hx HB0.out.1)
   have cf18 := blk1 (Ext.block hx HB0.out.2)
   go_wp2_with fail
   go_ret
   exact ⟨ret_bool HE.out.symm, (hx0.trans hx)⟩
set_option maxRecDepth 100000 in
set_option maxHeartbeats 4000000 in
theorem s_VerifyPath (t : Topo) (v1 v2 : Value) (p : Pth) (v : Value) (w : World) (ha : RdS ASd.rep w v1 t.ases) (r : RdS Part.rep w v p.parts) :
  Calls Tryz.prog 234 #[.agg #[v1, v2], .agg #[v]] w fun e w' => e = .returned (.bool (verPath t p)) ∧ Ext w w' := by
 obtain ⟨o, cap, rfl, hsm⟩ := r.shape
 have hx0 := ext2 w (.cells #[v1, v2] 33) (.cells #[.slice o p.parts.length cap] 26)
 have HB0 := Lib.hid (al2 w (.cells #[v1, v2] 33) (.cells #[.slice o p.parts.length cap] 26))
 go_enter Tryz.func234, Tryz.ntmps234
 obtain ⟨W0, hW0⟩ : ∃ W0 : World, W0 = (w.alloc (.cells #[v1, v2] 33)).alloc (.cells #[.slice o p.parts.length cap] 26) := ⟨_, rfl⟩
 rw [← hW0] at hx0 HB0
 have cf1 := blk2 HB0.out.1
 have cf2 := blk1 HB0.out.2
 go_wp2_with fail
 rw [← hW0]
 clear hW0
 go_loopg [5] p.parts.length (fun gk i wr => ∃ k : Nat, gk + k = p.parts.length ∧ i = .int .i64 k ∧ Hid (allTo (fun i => verPart t (partAt p.parts i)) k = true) ∧ Ext W0 wr)
 case atStart => exact ⟨0, rfl, rfl, Lib.hid rfl, Ext.refl _⟩
 case round =>
  obtain ⟨k, hgk, rfl, HK, hx⟩ := hrel
  by_cases hlt : k < p.parts.length
  ·
   have HG := Lib.hid (show gk - 1 + (k + 1) = p.parts.length ∧ gk - 1 < gk by omega); clear hgk
   have HAT := Lib.hid (partAt_at hlt)
   obtain ⟨b, off, oh, ch, rfl, hc, hr⟩ := Part.at (r.ext (hx0.trans hx)) k hlt
   have h4 : (k : Int) < (p.parts.length : Int) := by omega
   try clear cf1
   try clear cf2
   have cf3 := blk2 (Ext.block hx HB0.out.1)
   have cf4 := blk1 (Ext.block hx HB0.out.2)
   go_wp2_with fail
   refine wp_region_ext (by kernel_rfl) (by kernel_rfl) ?_
   have q0 := ExtW.cell (cf3.1)
   have q1 := ExtW.cell (cf3.2)
   have q2 := ExtW.cell (cf4)
   have q3 := ExtW.cell (hc.1)
   have q4 := ExtW.cell (hc.2.1)
   have q5 := ExtW.cell (hc.2.2.1)
   have q6 := ExtW.cell (hc.2.2.2)
   repeat (first | go_big_quiet_step (((first | (go_at_call 274; exact Calls.ext_of (s_VerifyPart t _ _ p.parts[k] _ _ ((ha.ext (hx0.trans hx)).ext (ExtW.h _)) ((hr.ext (Ext.refl _)).ext (ExtW.h _))))))) | quiet_step (((first | (go_at_call 274; exact Calls.ext_of (s_VerifyPart t _ _ p.parts[k] _ _ ((ha.ext (hx0.trans hx)).ext (ExtW.h _)) ((hr.ext (Ext.refl _)).ext (ExtW.h _))))))))
   refine wpQuiet_nil ?_
   intro w1 hw1
   have hz1 := ExtW.out hw1
   clear hw1 q0 q1 q2 q3 q4 q5 q6
   cases b1 : verPart t p.parts[k]
   ·
    have HE := Lib.hid (verPath_no hlt b1)
    try clear cf3
    try clear cf4
    have cf5 := blk2 (Ext.block (hx.trans hz1) HB0.out.1)
    have cf6 := blk1 (Ext.block (hx.trans hz1) HB0.out.2)
    have cf7 := Part.at_ext hz1 hc
    go_wp2_with fail
    go_ret
    exact ⟨ret_bool HE.out.symm, ((hx0.trans hx).trans hz1)⟩
   ·
    have HK2 := Lib.hid (allTo_snoc HK.out (show verPart t (partAt p.parts k) = true by rw [HAT.out]; exact b1))
    try clear cf3
    try clear cf4
    have cf8 := blk2 (Ext.block (hx.trans hz1) HB0.out.1)
    have cf9 := blk1 (Ext.block (hx.trans hz1) HB0.out.2)
    have cf10 := Part.at_ext hz1 hc
    go_wp2_with fail
    go_roundg (gk - 1)
    case measure => exact HG.out.2
    case rel => exact ⟨k + 1, HG.out.1, by go_num, HK2, (hx.trans hz1)⟩
  ·
   obtain rfl : k = p.parts.length := by omega
   have HE : Hid (verPath t p = true) := Lib.hid HK.out
   try clear cf1
   try clear cf2
   have cf11 := blk2 (Ext.block hx HB0.out.1)
   have cf12 := blk1 (Ext.block hx HB0.out.2)
   go_wp2_with fail
   go_ret
   exact ⟨ret_bool HE.out.symm, (hx0.trans hx)⟩
set_option maxRecDepth 100000 in
set_option maxHeartbeats 8000000 in
theorem i_PathUsable (t : Topo) (v1 v2 : Value) (p : Pth) (v : Value) (now : Int) (w : World) (ha : RdS ASd.rep w v1 t.ases) (hk : RdS Lnk.rep w v2 t.links) (r : RdS Part.rep w v p.parts) (hl : p.size ≤ 1048576) :
  Calls Tryz.prog 49 #[.agg #[v1, v2], .agg #[v], .int .i64 now] w fun e w' => e = .returned (.bool (usable t p now)) ∧ Ext w w' := by
 obtain ⟨o, cap, rfl, hsm⟩ := r.shape
 have hx0 := ext2 w (.cells #[v1, v2] 33) (.cells #[.slice o p.parts.length cap] 26)
 have HB0 := Lib.hid (al2 w (.cells #[v1, v2] 33) (.cells #[.slice o p.parts.length cap] 26))
 go_enter Tryz.func49, Tryz.ntmps49
 have cf1 := blk2 HB0.out.1
 have cf2 := blk1 HB0.out.2
 go_wp2_with fail
 refine (i_SimplePath t _ _ p _ _ (ha.ext hx0) (hk.ext hx0) (r.ext hx0) hl).mono ?_
 rintro e w1 ⟨rfl, hz1⟩
 cases bb : simple t p
 ·
  have HE := Lib.hid (show usable t p now = false by unfold usable; rw [bb]; rfl)
  try clear cf1
  try clear cf2
  have cf3 := blk2 (Ext.block hz1 HB0.out.1)
  have cf4 := blk1 (Ext.block hz1 HB0.out.2)
  go_wp2_with fail
  go_ret
  exact ⟨ret_bool HE.out.symm, (hx0.trans hz1)⟩
 ·
  have B1 := Lib.hid bb; clear bb
  try clear cf1
  try clear cf2
  have cf5 := blk2 (Ext.block hz1 HB0.out.1)
  have cf6 := blk1 (Ext.block hz1 HB0.out.2)
  go_wp2_with fail
  refine (i_VerifyPath t _ _ p _ _ (ha.ext (hx0.trans hz1)) (r.ext (hx0.trans hz1))).mono ?_
  rintro e w2 ⟨rfl, hz2⟩
  cases bb : verPath t p
  ·
   have HE := Lib.hid (show usable t p now = false by unfold usable; rw [bb]; simp)
   try clear cf5
   try clear cf6
   have cf7 := blk2 (Ext.block (hz1.trans hz2) HB0.out.1)
   have cf8 := blk1 (Ext.block (hz1.trans hz2) HB0.out.2)
   go_wp2_with fail
   go_ret
   exact ⟨ret_bool HE.out.symm, ((hx0.trans hz1).trans hz2)⟩
  ·
   have HU := Lib.hid (show usable t p now = allTo (fun i => partIn' now (partAt p.parts i)) p.parts.length by unfold usable; rw [B1.out, bb]; rfl)
   clear bb
   try clear cf5
   try clear cf6
   have cf9 := blk2 (Ext.block (hz1.trans hz2) HB0.out.1)
   have cf10 := blk1 (Ext.block (hz1.trans hz2) HB0.out.2)
   go_wp2_with fail
   go_loopg [22] p.parts.length (fun gk i wr => ∃ k : Nat, gk + k = p.parts.length ∧ i = .int .i64 k ∧ Hid (allTo (fun i => partIn' now (partAt p.parts i)) k = true) ∧ Ext w2 wr)
   case atStart => exact ⟨0, rfl, rfl, Lib.hid rfl, Ext.refl _⟩
   case round =>
    obtain ⟨k, hgk, rfl, HK, hx⟩ := hrel
    by_cases hlt : k < p.parts.length
    ·
     have HG := Lib.hid (show gk - 1 + (k + 1) = p.parts.length ∧ gk - 1 < gk by omega); clear hgk
     have HAT := Lib.hid (partAt_at hlt)
     obtain ⟨b, off, oh, ch, rfl, hc, hr⟩ := Part.at (r.ext (((hx0.trans hz1).trans hz2).trans hx)) k hlt
     have h4 : (k : Int) < (p.parts.length : Int) := by omega
     have hpl := validPart_len (simple_valid B1.out hlt)
     have HLI := Lib.hid (least_in (now := now) (l := p.parts[k].hops) (by omega))
     try clear cf9
     try clear cf10
     have cf11 := blk2 (Ext.block ((hz1.trans hz2).trans hx) HB0.out.1)
     have cf12 := blk1 (Ext.block ((hz1.trans hz2).trans hx) HB0.out.2)
     have hx1 : Ext wr (wr.alloc (.cells #[.int .i64 p.parts[k].kind, .int .i64 p.parts[k].ts, .int .i64 p.parts[k].beta, .slice oh p.parts[k].hops.length ch] 47)) := (Ext.refl _).alloc _
     have HB1 := Lib.hid (blk_new wr (.cells #[.int .i64 p.parts[k].kind, .int .i64 p.parts[k].ts, .int .i64 p.parts[k].beta, .slice oh p.parts[k].hops.length ch] 47))
     by_cases h5 : now < p.parts[k].ts
     ·
      have HE := Lib.hid (usable_no (t := t) hlt (show partIn' now p.parts[k] = false by unfold partIn'; rw [decide_eq_false (by omega)]; rfl))
      have cf13 := blk2 (Ext.block (((hz1.trans hz2).trans hx).trans hx1) HB0.out.1)
      have cf14 := blk1 (Ext.block (((hz1.trans hz2).trans hx).trans hx1) HB0.out.2)
      have cf15 := blk4 HB1.out
      have cf16 := Part.at_ext hx1 hc
      go_wp2_with fail
      go_ret
      exact ⟨ret_bool HE.out.symm, ((((hx0.trans hz1).trans hz2).trans hx).trans hx1)⟩
     ·
      have cf17 := blk2 (Ext.block (((hz1.trans hz2).trans hx).trans hx1) HB0.out.1)
      have cf18 := blk1 (Ext.block (((hz1.trans hz2).trans hx).trans hx1) HB0.out.2)
      have cf19 := blk4 HB1.out
      have cf20 := Part.at_ext hx1 hc
      go_wp2_with fail
      refine (i_leastExpiry p.parts[k].hops _ _ (hr.ext hx1)).mono ?_
      rintro e w3 ⟨rfl, hz3⟩
      generalize leastExp p.parts[k].hops = m at *
      by_cases h6 : m < now
      ·
       have HE := Lib.hid (usable_no (t := t) hlt (show partIn' now p.parts[k] = false by unfold partIn'; rw [HLI.out, decide_eq_false (show ¬ now ≤ m by omega)]; simp))
       try clear cf17
       try clear cf18
       try clear cf19
       try clear cf20
       have cf21 := blk2 (Ext.block ((((hz1.trans hz2).trans hx).trans hx1).trans hz3) HB0.out.1)
       have cf22 := blk1 (Ext.block ((((hz1.trans hz2).trans hx).trans hx1).trans hz3) HB0.out.2)
       have cf23 := blk4 (Ext.block hz3 HB1.out)
       have cf24 := Part.at_ext (hx1.trans hz3) hc
       go_wp2_with fail
       go_ret
       exact ⟨ret_bool HE.out.symm, (((((hx0.trans hz1).trans hz2).trans hx).trans hx1).trans hz3)⟩
      ·
       have HK2 := Lib.hid (allTo_snoc HK.out (show partIn' now (partAt p.parts k) = true by rw [HAT.out]; unfold partIn'; rw [decide_eq_true (show p.parts[k].ts ≤ now by omega), HLI.out, decide_eq_true (show now ≤ m by omega)]; rfl))
       try clear cf17
       try clear cf18
       try clear cf19
       try clear cf20
       have cf25 := blk2 (Ext.block ((((hz1.trans hz2).trans hx).trans hx1).trans hz3) HB0.out.1)
       have cf26 := blk1 (Ext.block ((((hz1.trans hz2).trans hx).trans hx1).trans hz3) HB0.out.2)
       have cf27 := blk4 (Ext.block hz3 HB1.out)
       have cf28 := Part.at_ext (hx1.trans hz3) hc
       go_wp2_with fail
       go_roundg (gk - 1)
       case measure => exact HG.out.2
       case rel => exact ⟨k + 1, HG.out.1, by go_num, HK2, ((hx.trans hx1).trans hz3)⟩
    ·
     obtain rfl : k = p.parts.length := by omega
     have HE := Lib.hid (HU.out.trans HK.out)
     try clear cf9
     try clear cf10
     have cf29 := blk2 (Ext.block ((hz1.trans hz2).trans hx) HB0.out.1)
     have cf30 := blk1 (Ext.block ((hz1.trans hz2).trans hx) HB0.out.2)
     go_wp2_with fail
     go_ret
     exact ⟨ret_bool HE.out.symm, (((hx0.trans hz1).trans hz2).trans hx)⟩
set_option maxRecDepth 100000 in
set_option maxHeartbeats 8000000 in
theorem s_PathUsable (t : Topo) (v1 v2 : Value) (p : Pth) (v : Value) (now : Int) (w : World) (ha : RdS ASd.rep w v1 t.ases) (hk : RdS Lnk.rep w v2 t.links) (r : RdS Part.rep w v p.parts) (hl : p.size ≤ 1048576) :
  Calls Tryz.prog 150 #[.agg #[v1, v2], .agg #[v], .int .i64 now] w fun e w' => e = .returned (.bool (usable t p now)) ∧ Ext w w' := by
 obtain ⟨o, cap, rfl, hsm⟩ := r.shape
 have hx0 := ext2 w (.cells #[v1, v2] 33) (.cells #[.slice o p.parts.length cap] 26)
 have HB0 := Lib.hid (al2 w (.cells #[v1, v2] 33) (.cells #[.slice o p.parts.length cap] 26))
 go_enter Tryz.func150, Tryz.ntmps150
 have cf1 := blk2 HB0.out.1
 have cf2 := blk1 HB0.out.2
 go_wp2_with fail
 refine (s_SimplePath t _ _ p _ _ (ha.ext hx0) (hk.ext hx0) (r.ext hx0) hl).mono ?_
 rintro e w1 ⟨rfl, hz1⟩
 cases bb : simple t p
 ·
  have HE := Lib.hid (show usable t p now = false by unfold usable; rw [bb]; rfl)
  try clear cf1
  try clear cf2
  have cf3 := blk2 (Ext.block hz1 HB0.out.1)
  have cf4 := blk1 (Ext.block hz1 HB0.out.2)
  go_wp2_with fail
  go_ret
  exact ⟨ret_bool HE.out.symm, (hx0.trans hz1)⟩
 ·
  have B1 := Lib.hid bb; clear bb
  try clear cf1
  try clear cf2
  have cf5 := blk2 (Ext.block hz1 HB0.out.1)
  have cf6 := blk1 (Ext.block hz1 HB0.out.2)
  go_wp2_with fail
  refine (s_VerifyPath t _ _ p _ _ (ha.ext (hx0.trans hz1)) (r.ext (hx0.trans hz1))).mono ?_
  rintro e w2 ⟨rfl, hz2⟩
  cases bb : verPath t p
  ·
   have HE := Lib.hid (show usable t p now = false by unfold usable; rw [bb]; simp)
   try clear cf5
   try clear cf6
   have cf7 := blk2 (Ext.block (hz1.trans hz2) HB0.out.1)
   have cf8 := blk1 (Ext.block (hz1.trans hz2) HB0.out.2)
   go_wp2_with fail
   go_ret
   exact ⟨ret_bool HE.out.symm, ((hx0.trans hz1).trans hz2)⟩
  ·
   have HU := Lib.hid (show usable t p now = allTo (fun i => partIn' now (partAt p.parts i)) p.parts.length by unfold usable; rw [B1.out, bb]; rfl)
   clear bb
   try clear cf5
   try clear cf6
   have cf9 := blk2 (Ext.block (hz1.trans hz2) HB0.out.1)
   have cf10 := blk1 (Ext.block (hz1.trans hz2) HB0.out.2)
   go_wp2_with fail
   go_loopg [7] p.parts.length (fun gk i wr => ∃ k : Nat, gk + k = p.parts.length ∧ i = .int .i64 k ∧ Hid (allTo (fun i => partIn' now (partAt p.parts i)) k = true) ∧ Ext w2 wr)
   case atStart => exact ⟨0, rfl, rfl, Lib.hid rfl, Ext.refl _⟩
   case round =>
    obtain ⟨k, hgk, rfl, HK, hx⟩ := hrel
    by_cases hlt : k < p.parts.length
    ·
     have HG := Lib.hid (show gk - 1 + (k + 1) = p.parts.length ∧ gk - 1 < gk by omega); clear hgk
     have HAT := Lib.hid (partAt_at hlt)
     obtain ⟨b, off, oh, ch, rfl, hc, hr⟩ := Part.at (r.ext (((hx0.trans hz1).trans hz2).trans hx)) k hlt
     have h4 : (k : Int) < (p.parts.length : Int) := by omega
     have hpl := validPart_len (simple_valid B1.out hlt)
     try clear cf9
     try clear cf10
     have cf11 := blk2 (Ext.block ((hz1.trans hz2).trans hx) HB0.out.1)
     have cf12 := blk1 (Ext.block ((hz1.trans hz2).trans hx) HB0.out.2)
     by_cases h5 : now < p.parts[k].ts
     ·
      have HE := Lib.hid (usable_no (t := t) hlt (show partIn' now p.parts[k] = false by unfold partIn'; rw [decide_eq_false (by omega)]; rfl))
      go_wp2_with fail
      go_ret
      exact ⟨ret_bool HE.out.symm, (((hx0.trans hz1).trans hz2).trans hx)⟩
     ·
      go_wp2_with fail
      obtain ⟨go, hgo⟩ : ∃ go : Nat, go = gk := ⟨_, rfl⟩
      subst hgo
      obtain ⟨wo, hwo⟩ : ∃ wo : World, wo = wr := ⟨_, rfl⟩
      subst hwo
      go_loopg [8] p.parts[k].hops.length (fun gk i wr => ∃ m : Nat, gk + m = p.parts[k].hops.length ∧ i = .int .i64 m ∧ Hid (hopsIn now (p.parts[k].hops.take m) = true) ∧ Ext wo wr)
      case atStart => exact ⟨0, rfl, rfl, Lib.hid rfl, Ext.refl _⟩
      case round =>
       obtain ⟨m, hgm, rfl, HM, hy⟩ := hrel
       by_cases hmk : m < p.parts[k].hops.length
       ·
        have HG2 := Lib.hid (show gk - 1 + (m + 1) = p.parts[k].hops.length ∧ gk - 1 < gk by omega); clear hgm
        obtain ⟨b2, off2, rfl, hd⟩ := Hop.at (hr.ext hy) m hmk
        have HS := Lib.hid (show hopsIn now (p.parts[k].hops.take (m + 1)) = (hopsIn now (p.parts[k].hops.take m) && decide (now ≤ p.parts[k].hops[m].exp)) by unfold hopsIn; rw [List.take_succ_eq_append_getElem hmk, List.all_append]; simp)
        try clear cf11
        try clear cf12
        have cf13 := blk2 (Ext.block (((hz1.trans hz2).trans hx).trans hy) HB0.out.1)
        have cf14 := blk1 (Ext.block (((hz1.trans hz2).trans hx).trans hy) HB0.out.2)
        have cf15 := Part.at_ext hy hc
        go_wp2_with fail
        refine (s_HopValidAt p.parts[k].hops[m] now _).mono ?_
        rintro e w3 ⟨rfl, hz3⟩
        by_cases h7 : now ≤ p.parts[k].hops[m].exp
        ·
         have HM2 := Lib.hid (show hopsIn now (p.parts[k].hops.take (m + 1)) = true by rw [HS.out, HM.out, decide_eq_true h7]; rfl)
         have h8 : decide (now ≤ p.parts[k].hops[m].exp) = true := decide_eq_true h7
         try clear cf13
         try clear cf14
         try clear cf15
         have cf16 := blk2 (Ext.block ((((hz1.trans hz2).trans hx).trans hy).trans hz3) HB0.out.1)
         have cf17 := blk1 (Ext.block ((((hz1.trans hz2).trans hx).trans hy).trans hz3) HB0.out.2)
         have cf18 := Part.at_ext (hy.trans hz3) hc
         have cf19 := Hop.at_ext hz3 hd
         go_wp2_with fail
         go_roundg (gk - 1)
         case measure => exact HG2.out.2
         case rel => exact ⟨m + 1, HG2.out.1, by go_num, HM2, (hy.trans hz3)⟩
        ·
         have HE := Lib.hid (usable_no (t := t) hlt (show partIn' now p.parts[k] = false by unfold partIn' hopsIn; rw [show p.parts[k].hops.all (fun h => decide (now ≤ h.exp)) = false from List.all_eq_false.2 ⟨p.parts[k].hops[m], List.getElem_mem _, by simpa using h7⟩]; simp))
         have h8 : decide (now ≤ p.parts[k].hops[m].exp) = false := decide_eq_false h7
         try clear cf13
         try clear cf14
         try clear cf15
         have cf20 := blk2 (Ext.block ((((hz1.trans hz2).trans hx).trans hy).trans hz3) HB0.out.1)
         have cf21 := blk1 (Ext.block ((((hz1.trans hz2).trans hx).trans hy).trans hz3) HB0.out.2)
         have cf22 := Part.at_ext (hy.trans hz3) hc
         have cf23 := Hop.at_ext hz3 hd
         go_wp2_with fail
         go_ret
         exact ⟨ret_bool HE.out.symm, (((((hx0.trans hz1).trans hz2).trans hx).trans hy).trans hz3)⟩
       ·
        obtain rfl : m = p.parts[k].hops.length := by omega
        have HMM := HM.out
        rw [List.take_length] at HMM
        have HM3 := Lib.hid HMM; clear HMM
        have HK2 := Lib.hid (allTo_snoc HK.out (show partIn' now (partAt p.parts k) = true by rw [HAT.out]; unfold partIn'; rw [decide_eq_true (show p.parts[k].ts ≤ now by omega), HM3.out]; rfl))
        try clear cf11
        try clear cf12
        have cf24 := blk2 (Ext.block (((hz1.trans hz2).trans hx).trans hy) HB0.out.1)
        have cf25 := blk1 (Ext.block (((hz1.trans hz2).trans hx).trans hy) HB0.out.2)
        have cf26 := Part.at_ext hy hc
        go_wp2_with fail
        go_roundg (go - 1)
        case measure => exact HG.out.2
        case rel => exact ⟨k + 1, HG.out.1, by go_num, HK2, (hx.trans hy)⟩
    ·
     obtain rfl : k = p.parts.length := by omega
     have HE := Lib.hid (HU.out.trans HK.out)
     try clear cf9
     try clear cf10
     have cf27 := blk2 (Ext.block ((hz1.trans hz2).trans hx) HB0.out.1)
     have cf28 := blk1 (Ext.block ((hz1.trans hz2).trans hx) HB0.out.2)
     go_wp2_with fail
     go_ret
     exact ⟨ret_bool HE.out.symm, (((hx0.trans hz1).trans hz2).trans hx)⟩
set_option maxRecDepth 100000 in
set_option maxHeartbeats 4000000 in
theorem i_Bidirectional (t : Topo) (v1 v2 : Value) (p : Pth) (v : Value) (now : Int) (w : World) (ha : RdS ASd.rep w v1 t.ases) (hk : RdS Lnk.rep w v2 t.links) (r : RdS Part.rep w v p.parts) (hl : p.size ≤ 1048576) :
  Calls Tryz.prog 40 #[.agg #[v1, v2], .agg #[v], .int .i64 now] w fun e w' => e = .returned (.bool (bidir t p now)) ∧ Ext w w' := by
 obtain ⟨o, cap, rfl, hsm⟩ := r.shape
 have hx0 := ext2 w (.cells #[v1, v2] 33) (.cells #[.slice o p.parts.length cap] 26)
 have HB0 := Lib.hid (al2 w (.cells #[v1, v2] 33) (.cells #[.slice o p.parts.length cap] 26))
 go_enter Tryz.func40, Tryz.ntmps40
 cases b1 : usable t p now
 ·
  have HE := Lib.hid (show bidir t p now = false by unfold bidir; rw [b1]; rfl)
  have cf1 := blk2 HB0.out.1
  have cf2 := blk1 HB0.out.2
  go_wp2_with fail
  refine wp_region_ext (by kernel_rfl) (by kernel_rfl) ?_
  have q0 := ExtW.cell (cf1.1)
  have q1 := ExtW.cell (cf1.2)
  have q2 := ExtW.cell (cf2)
  repeat (first | go_big_quiet_step (((first | (go_at_call 49; exact Calls.ext_of (i_PathUsable t _ _ p _ now _ ((ha.ext hx0).ext (ExtW.h _)) ((hk.ext hx0).ext (ExtW.h _)) ((r.ext hx0).ext (ExtW.h _)) hl))))) | quiet_step (((first | (go_at_call 49; exact Calls.ext_of (i_PathUsable t _ _ p _ now _ ((ha.ext hx0).ext (ExtW.h _)) ((hk.ext hx0).ext (ExtW.h _)) ((r.ext hx0).ext (ExtW.h _)) hl))))))
  refine wpQuiet_nil ?_
  intro w1 hw1
  have hz1 := ExtW.out hw1
  clear hw1 q0 q1 q2
  try clear cf1
  try clear cf2
  have cf3 := blk2 (Ext.block hz1 HB0.out.1)
  have cf4 := blk1 (Ext.block hz1 HB0.out.2)
  go_wp2_with fail
  go_ret
  exact ⟨ret_bool HE.out.symm, (hx0.trans hz1)⟩
 ·
  have HE := Lib.hid (show bidir t p now = usable t (revPath p) now by unfold bidir; rw [b1]; rfl)
  have hl2 : (revPath p).size ≤ 1048576 := by rw [revPath_sizeB]; exact hl
  have cf5 := blk2 HB0.out.1
  have cf6 := blk1 HB0.out.2
  go_wp2_with fail
  refine planStep (.blk [0, 1, 2] (.one 3 (.blk [4, 5, 6, 8] (.one 7 (.one 9 (.blk [10, 11] .done)))))) [] (by kernel_rfl) (by kernel_rfl) ?_
  try clear cf5
  try clear cf6
  have cf7 := blk2 (Ext.block ((Ext.refl _).drew) HB0.out.1)
  have cf8 := blk1 (Ext.block ((Ext.refl _).drew) HB0.out.2)
  refine blkStep (fun K HK => ?_)
  simp only [PK]
  go_wp2_with fail
  refine HK.out _ _ ?_
  clear HK K
  refine oneStep (fun K HK => ?_)
  simp only [PK]
  go_wp2_with fail
  refine (i_PathUsable t _ _ p _ now _ (ha.ext (hx0.trans ((Ext.refl _).drew))) (hk.ext (hx0.trans ((Ext.refl _).drew))) (r.ext (hx0.trans ((Ext.refl _).drew))) hl).mono ?_
  rintro e w2 ⟨rfl, hz2⟩
  try clear cf7
  try clear cf8
  have cf9 := blk2 (Ext.block (((Ext.refl _).drew).trans hz2) HB0.out.1)
  have cf10 := blk1 (Ext.block (((Ext.refl _).drew).trans hz2) HB0.out.2)
  go_wp2_with fail
  refine HK.out _ _ hz2 ?_
  clear HK K
  refine blkStep (fun K HK => ?_)
  simp only [PK]
  go_wp2_with fail
  refine HK.out _ _ ?_
  clear HK K
  refine oneStep (fun K HK => ?_)
  simp only [PK]
  go_wp2_with fail
  refine (i_ReversePath p _ _ (r.ext ((hx0.trans ((Ext.refl _).drew)).trans hz2)) hl).mono ?_
  rintro e w3 ⟨u, rfl, oq, hz3⟩
  obtain ⟨og, cg, rfl, _⟩ := (Part.ord oq).shape
  try clear cf9
  try clear cf10
  have cf11 := blk2 (Ext.block ((((Ext.refl _).drew).trans hz2).trans hz3) HB0.out.1)
  have cf12 := blk1 (Ext.block ((((Ext.refl _).drew).trans hz2).trans hz3) HB0.out.2)
  go_wp2_with fail
  refine HK.out _ _ hz3 ?_
  clear HK K
  refine oneStep (fun K HK => ?_)
  simp only [PK]
  go_wp2_with fail
  refine (i_PathUsable t _ _ (revPath p) _ now _ (ha.ext (((hx0.trans ((Ext.refl _).drew)).trans hz2).trans hz3)) (hk.ext (((hx0.trans ((Ext.refl _).drew)).trans hz2).trans hz3)) (Part.ord oq) hl2).mono ?_
  rintro e w4 ⟨rfl, hz4⟩
  try clear cf11
  try clear cf12
  have cf13 := blk2 (Ext.block (((((Ext.refl _).drew).trans hz2).trans hz3).trans hz4) HB0.out.1)
  have cf14 := blk1 (Ext.block (((((Ext.refl _).drew).trans hz2).trans hz3).trans hz4) HB0.out.2)
  go_wp2_with fail
  refine HK.out _ _ hz4 ?_
  clear HK K
  refine blkStep (fun K HK => ?_)
  simp only [PK]
  go_wp2_with fail
  refine HK.out _ _ ?_
  clear HK K
  refine doneStep (by kernel_rfl) ?_
  go_wp2_with fail
  go_ret
  exact ⟨ret_bool HE.out.symm, ((((hx0.trans ((Ext.refl _).drew)).trans hz2).trans hz3).trans hz4)⟩
set_option maxRecDepth 100000 in
set_option maxHeartbeats 4000000 in
theorem s_Bidirectional (t : Topo) (v1 v2 : Value) (p : Pth) (v : Value) (now : Int) (w : World) (ha : RdS ASd.rep w v1 t.ases) (hk : RdS Lnk.rep w v2 t.links) (r : RdS Part.rep w v p.parts) (hl : p.size ≤ 1048576) :
  Calls Tryz.prog 41 #[.agg #[v1, v2], .agg #[v], .int .i64 now] w fun e w' => e = .returned (.bool (bidir t p now)) ∧ Ext w w' := by
 obtain ⟨o, cap, rfl, hsm⟩ := r.shape
 have hx0 := ext2 w (.cells #[v1, v2] 33) (.cells #[.slice o p.parts.length cap] 26)
 have HB0 := Lib.hid (al2 w (.cells #[v1, v2] 33) (.cells #[.slice o p.parts.length cap] 26))
 go_enter Tryz.func41, Tryz.ntmps41
 cases b1 : usable t p now
 ·
  have HE := Lib.hid (show bidir t p now = false by unfold bidir; rw [b1]; rfl)
  have cf1 := blk2 HB0.out.1
  have cf2 := blk1 HB0.out.2
  go_wp2_with fail
  refine wp_region_ext (by kernel_rfl) (by kernel_rfl) ?_
  have q0 := ExtW.cell (cf1.1)
  have q1 := ExtW.cell (cf1.2)
  have q2 := ExtW.cell (cf2)
  repeat (first | go_big_quiet_step (((first | (go_at_call 150; exact Calls.ext_of (s_PathUsable t _ _ p _ now _ ((ha.ext hx0).ext (ExtW.h _)) ((hk.ext hx0).ext (ExtW.h _)) ((r.ext hx0).ext (ExtW.h _)) hl))))) | quiet_step (((first | (go_at_call 150; exact Calls.ext_of (s_PathUsable t _ _ p _ now _ ((ha.ext hx0).ext (ExtW.h _)) ((hk.ext hx0).ext (ExtW.h _)) ((r.ext hx0).ext (ExtW.h _)) hl))))))
  refine wpQuiet_nil ?_
  intro w1 hw1
  have hz1 := ExtW.out hw1
  clear hw1 q0 q1 q2
  try clear cf1
  try clear cf2
  have cf3 := blk2 (Ext.block hz1 HB0.out.1)
  have cf4 := blk1 (Ext.block hz1 HB0.out.2)
  go_wp2_with fail
  go_ret
  exact ⟨ret_bool HE.out.symm, (hx0.trans hz1)⟩
 ·
  have HE := Lib.hid (show bidir t p now = usable t (revPath p) now by unfold bidir; rw [b1]; rfl)
  have hl2 : (revPath p).size ≤ 1048576 := by rw [revPath_sizeB]; exact hl
  have cf5 := blk2 HB0.out.1
  have cf6 := blk1 HB0.out.2
  go_wp2_with fail
  refine planStep (.blk [0, 1, 2] (.one 3 (.blk [4, 5, 6, 8] (.one 7 (.one 9 (.blk [10, 11] .done)))))) [] (by kernel_rfl) (by kernel_rfl) ?_
  try clear cf5
  try clear cf6
  have cf7 := blk2 (Ext.block ((Ext.refl _).drew) HB0.out.1)
  have cf8 := blk1 (Ext.block ((Ext.refl _).drew) HB0.out.2)
  refine blkStep (fun K HK => ?_)
  simp only [PK]
  go_wp2_with fail
  refine HK.out _ _ ?_
  clear HK K
  refine oneStep (fun K HK => ?_)
  simp only [PK]
  go_wp2_with fail
  refine (s_PathUsable t _ _ p _ now _ (ha.ext (hx0.trans ((Ext.refl _).drew))) (hk.ext (hx0.trans ((Ext.refl _).drew))) (r.ext (hx0.trans ((Ext.refl _).drew))) hl).mono ?_
  rintro e w2 ⟨rfl, hz2⟩
  try clear cf7
  try clear cf8
  have cf9 := blk2 (Ext.block (((Ext.refl _).drew).trans hz2) HB0.out.1)
  have cf10 := blk1 (Ext.block (((Ext.refl _).drew).trans hz2) HB0.out.2)
  go_wp2_with fail
  refine HK.out _ _ hz2 ?_
  clear HK K
  refine blkStep (fun K HK => ?_)
  simp only [PK]
  go_wp2_with fail
  refine HK.out _ _ ?_
  clear HK K
  refine oneStep (fun K HK => ?_)
  simp only [PK]
  go_wp2_with fail
  refine (s_ReversePath p _ _ (r.ext ((hx0.trans ((Ext.refl _).drew)).trans hz2)) hl).mono ?_
  rintro e w3 ⟨u, rfl, oq, hz3⟩
  obtain ⟨og, cg, rfl, _⟩ := (Part.ord oq).shape
  try clear cf9
  try clear cf10
  have cf11 := blk2 (Ext.block ((((Ext.refl _).drew).trans hz2).trans hz3) HB0.out.1)
  have cf12 := blk1 (Ext.block ((((Ext.refl _).drew).trans hz2).trans hz3) HB0.out.2)
  go_wp2_with fail
  refine HK.out _ _ hz3 ?_
  clear HK K
  refine oneStep (fun K HK => ?_)
  simp only [PK]
  go_wp2_with fail
  refine (s_PathUsable t _ _ (revPath p) _ now _ (ha.ext (((hx0.trans ((Ext.refl _).drew)).trans hz2).trans hz3)) (hk.ext (((hx0.trans ((Ext.refl _).drew)).trans hz2).trans hz3)) (Part.ord oq) hl2).mono ?_
  rintro e w4 ⟨rfl, hz4⟩
  try clear cf11
  try clear cf12
  have cf13 := blk2 (Ext.block (((((Ext.refl _).drew).trans hz2).trans hz3).trans hz4) HB0.out.1)
  have cf14 := blk1 (Ext.block (((((Ext.refl _).drew).trans hz2).trans hz3).trans hz4) HB0.out.2)
  go_wp2_with fail
  refine HK.out _ _ hz4 ?_
  clear HK K
  refine blkStep (fun K HK => ?_)
  simp only [PK]
  go_wp2_with fail
  refine HK.out _ _ ?_
  clear HK K
  refine doneStep (by kernel_rfl) ?_
  go_wp2_with fail
  go_ret
  exact ⟨ret_bool HE.out.symm, ((((hx0.trans ((Ext.refl _).drew)).trans hz2).trans hz3).trans hz4)⟩
end
section
open Go.RowKit
theorem usable_same {t : Topo} (T : TopoOk t) {p : Pth} (D : PthDrawn t p) (now : Int) : usable t p now = usable t (revPath p) now := by
  obtain ⟨D2, hr⟩ := D.rev T
  cases h : usable t p now
  · cases h2 : usable t (revPath p) now
    · rfl
    · have := rev_usable T D2 h2
      rw [hr, h] at this; cases this
  · exact (rev_usable T D h).symm
end
end Go.Proofs.YtikbeiafobnblaaGreat
