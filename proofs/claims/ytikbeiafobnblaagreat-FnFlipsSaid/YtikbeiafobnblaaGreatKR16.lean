/- What these laws need: FnFlips, FnForwards, FnHopsPassed: Contracts of digests, codes and hop fields, program and reference. Contracts of the tests of parts and paths, program and reference. Contracts of the tests of whole paths: order of parts, interfaces, codes, expiry, program and reference. Contracts of simple, verified and usable paths, program and reference. -/
import Derived.Deep.LoopGhost
import Derived.Test.YtikbeiafobnblaaGreatKR8
import Derived.Test.YtikbeiafobnblaaGreatKR15
namespace Go.Proofs.YtikbeiafobnblaaGreat
section
open Go.ChangeShapes Go.WideShapes Go.ChangeAt Go.RowKit Go.Deep
set_option maxHeartbeats 1000000 in
theorem s_ValidHop (h : Hop) (w : World) :
  Calls Tryz.prog 221 #[.agg #[.int .i64 h.asn, .int .i64 h.ing, .int .i64 h.eg, .int .i64 h.exp, .int .i64 h.mac]] w fun e w' => e = .returned (.bool (validHop h)) ∧ Ext w w' := by
 go_enter Tryz.func221, Tryz.ntmps221

 go_wp2_with (first | (go_at_call 182; refine (s_l1In _ _ _ _).mono ?_; rintro e w' ⟨rfl, rfl⟩) | (go_at_call 220; refine (s_l3Ok _ _).mono ?_; rintro e w' ⟨rfl, rfl⟩))
 all_goals
  go_ret
  refine ⟨ret_bool ?_, (Ext.refl _).alloc _⟩
  simp [validHop, *]
set_option maxRecDepth 100000 in
set_option maxHeartbeats 2000000 in
theorem s_VerifyHop (t : Topo) (v1 v2 : Value) (ts beta : Int) (h : Hop) (w : World) (ha : RdS ASd.rep w v1 t.ases) :
  Calls Tryz.prog 128 #[.agg #[v1, v2], .int .i64 ts, .int .i64 beta, .agg #[.int .i64 h.asn, .int .i64 h.ing, .int .i64 h.eg, .int .i64 h.exp, .int .i64 h.mac]] w fun e w' => e = .returned (.bool (verHop t ts beta h)) ∧ Ext w w' := by
 obtain ⟨o, cap, rfl, hsm⟩ := ha.shape
 have hx0 := ext2 w (.cells #[.slice o t.ases.length cap, v2] 33) (.cells #[.int .i64 h.asn, .int .i64 h.ing, .int .i64 h.eg, .int .i64 h.exp, .int .i64 h.mac] 44)
 have HB := Lib.hid (al2 w (.cells #[.slice o t.ases.length cap, v2] 33) (.cells #[.int .i64 h.asn, .int .i64 h.ing, .int .i64 h.eg, .int .i64 h.exp, .int .i64 h.mac] 44))
 go_enter Tryz.func128, Tryz.ntmps128

 go_wp2
 have hc1 := blk2 HB.out.1
 have hc2 := blk5 HB.out.2
 cases h1 : validHop h
 ·
  have HE := Lib.hid (show verHop t ts beta h = false by unfold verHop; rw [h1]; rfl)
  refine wp_region_ext (by kernel_rfl) (by kernel_rfl) ?_
  have q0 := ExtW.cell (hc1.1)
  have q1 := ExtW.cell (hc1.2)
  have q2 := ExtW.cell (hc2.1)
  have q3 := ExtW.cell (hc2.2.1)
  have q4 := ExtW.cell (hc2.2.2.1)
  have q5 := ExtW.cell (hc2.2.2.2.1)
  have q6 := ExtW.cell (hc2.2.2.2.2)
  repeat (first | go_big_quiet_step (((first | (go_at_call 221; exact Calls.ext_of (s_ValidHop h _))))) | quiet_step (((first | (go_at_call 221; exact Calls.ext_of (s_ValidHop h _))))))
  refine wpQuiet_nil ?_
  intro w9 hw9
  have h9 := ExtW.out hw9
  clear hw9 q0 q1 q2 q3 q4 q5 q6
  clear hc1 hc2
  go_wp2_with fail
  go_ret
  exact ⟨ret_bool HE.out.symm, hx0.trans h9⟩
 ·
  cases h2 : isAs t h.asn
  ·
   have HE := Lib.hid (show verHop t ts beta h = false by unfold verHop; rw [h1, h2]; rfl)
   refine wp_region_ext (by kernel_rfl) (by kernel_rfl) ?_
   have q0 := ExtW.cell (hc1.1)
   have q1 := ExtW.cell (hc1.2)
   have q2 := ExtW.cell (hc2.1)
   have q3 := ExtW.cell (hc2.2.1)
   have q4 := ExtW.cell (hc2.2.2.1)
   have q5 := ExtW.cell (hc2.2.2.2.1)
   have q6 := ExtW.cell (hc2.2.2.2.2)
   repeat (first | go_big_quiet_step (((first | (go_at_call 221; exact Calls.ext_of (s_ValidHop h _)) | (go_at_call 222; exact Calls.ext_of (s_l5Realm t _ _ h.asn _ ((ha.ext hx0).ext (ExtW.h _))))))) | quiet_step (((first | (go_at_call 221; exact Calls.ext_of (s_ValidHop h _)) | (go_at_call 222; exact Calls.ext_of (s_l5Realm t _ _ h.asn _ ((ha.ext hx0).ext (ExtW.h _))))))))
   refine wpQuiet_nil ?_
   intro w9 hw9
   have h9 := ExtW.out hw9
   clear hw9 q0 q1 q2 q3 q4 q5 q6
   clear hc1 hc2
   go_wp2_with fail
   go_ret
   exact ⟨ret_bool HE.out.symm, hx0.trans h9⟩
  ·
   obtain ⟨hp1, hp2⟩ := isAs_lt h2
   have HE := Lib.hid (show verHop t ts beta h = (h.mac == hopMac t.ases[h.asn.toNat].key ts beta h) by unfold verHop; rw [h1, h2, asAt_at hp1 hp2]; rfl)
   obtain ⟨b, off, rfl, hc⟩ := ASd.at (ha.ext hx0) h.asn.toNat hp2
   have hp3 : h.asn < t.ases.length := by omega
   refine wp_region_ext (by kernel_rfl) (by kernel_rfl) ?_
   have q0 := ExtW.cell (hc1.1)
   have q1 := ExtW.cell (hc1.2)
   have q2 := ExtW.cell (hc2.1)
   have q3 := ExtW.cell (hc2.2.1)
   have q4 := ExtW.cell (hc2.2.2.1)
   have q5 := ExtW.cell (hc2.2.2.2.1)
   have q6 := ExtW.cell (hc2.2.2.2.2)
   have q7 := ExtW.cell (hc.1)
   have q8 := ExtW.cell (hc.2.1)
   have q9 := ExtW.cell (hc.2.2)
   repeat (first | go_big_quiet_step (((first | (go_at_call 221; exact Calls.ext_of (s_ValidHop h _)) | (go_at_call 222; exact Calls.ext_of (s_l5Realm t _ _ h.asn _ ((ha.ext hx0).ext (ExtW.h _)))) | (go_at_call 223; exact Calls.ext_of (s_HopMAC _ _ _ h _))))) | quiet_step (((first | (go_at_call 221; exact Calls.ext_of (s_ValidHop h _)) | (go_at_call 222; exact Calls.ext_of (s_l5Realm t _ _ h.asn _ ((ha.ext hx0).ext (ExtW.h _)))) | (go_at_call 223; exact Calls.ext_of (s_HopMAC _ _ _ h _))))))
   refine wpQuiet_nil ?_
   intro w9 hw9
   have h9 := ExtW.out hw9
   clear hw9 q0 q1 q2 q3 q4 q5 q6 q7 q8 q9
   clear hc1 hc2
   go_wp2_with fail
   go_ret
   exact ⟨ret_bool HE.out.symm, hx0.trans h9⟩
end
section
open Go.ChangeShapes Go.WideShapes Go.ChangeAt Go.RowKit Go.Deep
theorem validPart_6 {t : Topo} {x : Part} (h : inR (x.hops.length : Int) 1 8 = false) : validPart t x = false := validPart_2 (by unfold hopsOk; rw [h]; rfl)
theorem validPart_7 {t : Topo} {x : Part} {k : Nat} (hk : k < x.hops.length) (h : hopFresh t x.hops k = false) : validPart t x = false := validPart_2 (by unfold hopsOk; rw [allTo_no hk h]; simp)
set_option maxRecDepth 100000 in
set_option maxHeartbeats 1000000 in
theorem s_l21Realms (x : Part) (v : Value) (w : World) (r : RdS Hop.rep w v x.hops) (hl : x.hops.length ≤ 1048576) :
  Calls Tryz.prog 298 #[.agg #[.int .i64 x.kind, .int .i64 x.ts, .int .i64 x.beta, v]] w fun e w' => ∃ v', e = .returned v' ∧ OwnF intF 1 w.heap.size 3 w' v' (x.hops.map (·.asn)) ∧ Ext w w' := by
 obtain ⟨o, cap, rfl, hsm⟩ := r.shape
 obtain ⟨E⟩ := elemInt
 obtain ⟨ml, hml⟩ : ∃ ml, ml = x.hops.map (·.asn) := ⟨_, rfl⟩
 have hlm : ml.length = x.hops.length := by rw [hml, List.length_map]
 have HAT : Hid (∀ (k : Nat) (h : k < ml.length) (h' : k < x.hops.length), ml[k] = x.hops[k].asn) := Lib.hid (by intro k h h'; subst hml; exact List.getElem_map _)
 rw [← hml]
 clear hml
 have HLM := Lib.hid hlm; clear hlm
 have hx0 : Ext w (w.alloc (.cells #[.int .i64 x.kind, .int .i64 x.ts, .int .i64 x.beta, .slice o x.hops.length cap] 47)) := (Ext.refl _).alloc _
 have HB0 := Lib.hid (blk_new w (.cells #[.int .i64 x.kind, .int .i64 x.ts, .int .i64 x.beta, .slice o x.hops.length cap] 47))
 go_enter Tryz.func298, Tryz.ntmps298
 have ho0 := OwnF.empty intF 1 (w.alloc (.cells #[.int .i64 x.kind, .int .i64 x.ts, .int .i64 x.beta, .slice o x.hops.length cap] 47)).heap.size 3 (w.alloc (.cells #[.int .i64 x.kind, .int .i64 x.ts, .int .i64 x.beta, .slice o x.hops.length cap] 47)) (Nat.le_refl _)
 simp only [nblk_alloc] at ho0
 go_wp2
 go_loopg [3, 4] x.hops.length (fun gk out i wr => ∃ k : Nat, gk + k = x.hops.length ∧ i = .int .i64 k ∧ OwnF intF 1 (w.heap.size + 1) 3 wr out (ml.take k) ∧ Ext (w.alloc (.cells #[.int .i64 x.kind, .int .i64 x.ts, .int .i64 x.beta, .slice o x.hops.length cap] 47)) wr)
 case atStart => exact ⟨0, rfl, rfl, ho0, (Ext.refl _).alloc _⟩
 case round =>
  obtain ⟨k, hgk, rfl, hown, hx⟩ := hrel
  clear ho0
  by_cases hlt : k < x.hops.length
  ·
   have hg' : gk - 1 + (k + 1) = x.hops.length ∧ gk - 1 < gk := by omega
   have HG := Lib.hid hg'; clear hg' hgk
   obtain ⟨b, off, rfl, hc⟩ := Hop.at (r.ext (hx0.trans hx)) k hlt
   have hkm : k < ml.length := by rw [HLM.out]; exact hlt
   have HS := Lib.hid (show ml.take k ++ [x.hops[k].asn] = ml.take (k + 1) by rw [List.take_succ_eq_append_getElem hkm, HAT.out k hkm hlt])
   have hln : (ml.take k).length ≤ k := List.length_take_le _ _
   clear hkm
   have cf1 := blk4 (Ext.block hx HB0.out)
   go_wp2_with (at_builtin; refine app1 E intFlen intOne rfl _ _ rfl x.hops[k].asn rfl (hown.ext ((Ext.refl _).alloc _)) rfl (by exact blk_list (intF x.hops[k].asn) (blk_new wr _)) (by omega) (by unfold maxLen; omega) (by have := (hx.alloc (.cells #[.int .i64 x.hops[k].asn] 3)).size; simpa using this) ?_)
   intro v' w' ho' hg'
   have hx' := (hx.alloc (.cells #[.int .i64 x.hops[k].asn] 3)).app (e := 3) hg' hown (by simp)
   rw [HS.out] at ho'
   clear hg' hown
   go_wp2_with fail
   go_roundg (gk - 1)
   case measure => exact HG.out.2
   case rel => exact ⟨k + 1, HG.out.1, by go_num, ho', hx'⟩
  ·
   have HXS := Lib.hid (show ml.take k = ml by rw [List.take_of_length_le (by rw [HLM.out]; omega)])
   rw [HXS.out] at hown
   have cf2 := blk4 (Ext.block hx HB0.out)
   go_wp2_with fail
   go_ret
   exact ⟨_, rfl, hown.mono (Nat.le_succ _), (hx0.trans hx)⟩
set_option maxRecDepth 100000 in
set_option maxHeartbeats 8000000 in
theorem s_ValidPart (t : Topo) (v1 v2 : Value) (x : Part) (v : Value) (w : World) (ha : RdS ASd.rep w v1 t.ases) (hk : RdS Lnk.rep w v2 t.links) (r : RdS Hop.rep w v x.hops) :
  Calls Tryz.prog 278 #[.agg #[v1, v2], .agg #[.int .i64 x.kind, .int .i64 x.ts, .int .i64 x.beta, v]] w fun e w' => e = .returned (.bool (validPart t x)) ∧ Ext w w' := by
 obtain ⟨o, cap, rfl, hsm⟩ := r.shape
 have hx0 := ext2 w (.cells #[v1, v2] 33) (.cells #[.int .i64 x.kind, .int .i64 x.ts, .int .i64 x.beta, .slice o x.hops.length cap] 47)
 have HB0 := Lib.hid (al2 w (.cells #[v1, v2] 33) (.cells #[.int .i64 x.kind, .int .i64 x.ts, .int .i64 x.beta, .slice o x.hops.length cap] 47))
 go_enter Tryz.func278, Tryz.ntmps278
 have cf1 := blk2 HB0.out.1
 have cf2 := blk4 HB0.out.2
 go_wp2_with fail
 refine (s_l1In _ _ _ _).mono ?_
 rintro e _ ⟨rfl, rfl⟩
 cases bb : inR (x.hops.length : Int) 1 8
 ·
  have HE := Lib.hid (validPart_6 (t := t) (x := x) bb)
  go_wp2_with fail
  go_ret
  exact ⟨ret_bool HE.out.symm, hx0⟩
 ·
  have B2 := Lib.hid bb
  have hl8 : x.hops.length ≤ 8 ∧ 1 ≤ x.hops.length := by have := inR_true.1 bb; omega
  clear bb
  go_wp2_with fail
  refine (s_l1In _ _ _ _).mono ?_
  rintro e _ ⟨rfl, rfl⟩
  cases bb : inR x.kind 1 4
  ·
   have HE := Lib.hid (validPart_1 (t := t) (x := x) bb)
   go_wp2_with fail
   go_ret
   exact ⟨ret_bool HE.out.symm, hx0⟩
  ·
   have B1 := Lib.hid bb; clear bb
   go_wp2_with fail
   refine (s_l1In _ _ _ _).mono ?_
   rintro e _ ⟨rfl, rfl⟩
   cases bb : inR x.ts 0 1000000
   ·
    have HE := Lib.hid (validPart_3 (t := t) (x := x) bb)
    go_wp2_with fail
    go_ret
    exact ⟨ret_bool HE.out.symm, hx0⟩
   ·
    have B3 := Lib.hid bb; clear bb
    go_wp2_with fail
    refine (s_l3Ok _ _).mono ?_
    rintro e _ ⟨rfl, rfl⟩
    cases bb : isRes x.beta
    ·
     have HE := Lib.hid (validPart_4 (t := t) (x := x) bb)
     go_wp2_with fail
     go_ret
     exact ⟨ret_bool HE.out.symm, hx0⟩
    ·
     have B4 := Lib.hid bb; clear bb
     go_wp2_with fail
     refine (s_l21Realms x _ _ (r.ext hx0) (by omega)).mono ?_
     rintro e w5 ⟨u, rfl, oq, hz5⟩
     obtain ⟨og, cg, rfl, _⟩ := (ints_rep oq).shape
     have hlm : (x.hops.map (·.asn)).length = x.hops.length := List.length_map _
     have HLM := Lib.hid hlm
     have hcg := (ints_rep oq).capLe
     have hqr := ints_rep oq
     clear oq
     rw [hlm] at hcg
     generalize hml : x.hops.map (·.asn) = ml at *
     have HML := Lib.hid hml
     clear hml
     rw [hlm] at hqr
     rw [hlm]
     clear hlm
     try clear cf1
     try clear cf2
     have cf3 := blk2 (Ext.block hz5 HB0.out.1)
     have cf4 := blk4 (Ext.block hz5 HB0.out.2)
     go_wp2_with fail
     go_loopg [6] x.hops.length (fun gk i wr => ∃ k : Nat, gk + k = x.hops.length ∧ i = .int .i64 k ∧ Hid (allTo (hopFresh t x.hops) k = true) ∧ Hid (allTo (joinAt t x) (k - 1) = true) ∧ Ext w5 wr)
     case atStart => exact ⟨0, rfl, rfl, Lib.hid rfl, Lib.hid rfl, Ext.refl _⟩
     case round =>
      obtain ⟨k, hgk, rfl, HK, HL, hx⟩ := hrel
      by_cases hlt : k < x.hops.length
      ·
       have HG := Lib.hid (show gk - 1 + (k + 1) = x.hops.length ∧ gk - 1 < gk by omega); clear hgk
       have HAT := Lib.hid (hopAt_at hlt)
       obtain ⟨b, off, rfl, hc⟩ := Hop.at (r.ext ((hx0.trans hz5).trans hx)) k hlt
       have hkm : k < ml.length := by rw [HLM.out]; exact hlt
       obtain ⟨bq, oq, rfl, hq⟩ := ints_at (hqr.ext hx) k hkm
       have hgm : ml[k] = x.hops[k].asn := by simp only [← HML.out, List.getElem_map]
       rw [hgm] at hq
       clear hgm
       have hqk := RdS.upto hqr k (by rw [HLM.out]; omega)
       have hkc : k ≤ cg := by omega
       have h4 : (k : Int) < (x.hops.length : Int) := by omega
       have h6 : (k : Int) ≤ (cg : Int) := by omega
       cases b1 : validHop x.hops[k]
       ·
        try clear cf3
        try clear cf4
        have cf5 := blk2 (Ext.block (hz5.trans hx) HB0.out.1)
        have cf6 := blk4 (Ext.block (hz5.trans hx) HB0.out.2)
        go_wp2_with fail
        refine wp_region_ext (by kernel_rfl) (by kernel_rfl) ?_
        have q0 := ExtW.cell (cf5.1)
        have q1 := ExtW.cell (cf5.2)
        have q2 := ExtW.cell (cf6.1)
        have q3 := ExtW.cell (cf6.2.1)
        have q4 := ExtW.cell (cf6.2.2.1)
        have q5 := ExtW.cell (cf6.2.2.2)
        have q6 := ExtW.cell (hc.1)
        have q7 := ExtW.cell (hc.2.1)
        have q8 := ExtW.cell (hc.2.2.1)
        have q9 := ExtW.cell (hc.2.2.2.1)
        have q10 := ExtW.cell (hc.2.2.2.2)
        have q11 := ExtW.cell (hq)
        repeat (first | go_big_quiet_step (((first | (go_at_call 221; exact Calls.ext_of (s_ValidHop x.hops[k] _))))) | quiet_step (((first | (go_at_call 221; exact Calls.ext_of (s_ValidHop x.hops[k] _))))))
        refine wpQuiet_nil ?_
        intro w6 hw6
        have hz6 := ExtW.out hw6
        clear hw6 q0 q1 q2 q3 q4 q5 q6 q7 q8 q9 q10 q11
        have HE := Lib.hid (validPart_7 (t := t) hlt (show hopFresh t x.hops k = false by unfold hopFresh; rw [HAT.out, HML.out]; simp only [b1, Bool.false_and]))
        try clear cf5
        try clear cf6
        have cf7 := blk2 (Ext.block ((hz5.trans hx).trans hz6) HB0.out.1)
        have cf8 := blk4 (Ext.block ((hz5.trans hx).trans hz6) HB0.out.2)
        have cf9 := Hop.at_ext hz6 hc
        have cf10 := Ext.cell hz6 hq
        go_wp2_with fail
        go_ret
        exact ⟨ret_bool HE.out.symm, (((hx0.trans hz5).trans hx).trans hz6)⟩
       ·
        cases b2 : isAs t x.hops[k].asn
        ·
         try clear cf3
         try clear cf4
         have cf11 := blk2 (Ext.block (hz5.trans hx) HB0.out.1)
         have cf12 := blk4 (Ext.block (hz5.trans hx) HB0.out.2)
         go_wp2_with fail
         refine wp_region_ext (by kernel_rfl) (by kernel_rfl) ?_
         have q0 := ExtW.cell (cf11.1)
         have q1 := ExtW.cell (cf11.2)
         have q2 := ExtW.cell (cf12.1)
         have q3 := ExtW.cell (cf12.2.1)
         have q4 := ExtW.cell (cf12.2.2.1)
         have q5 := ExtW.cell (cf12.2.2.2)
         have q6 := ExtW.cell (hc.1)
         have q7 := ExtW.cell (hc.2.1)
         have q8 := ExtW.cell (hc.2.2.1)
         have q9 := ExtW.cell (hc.2.2.2.1)
         have q10 := ExtW.cell (hc.2.2.2.2)
         have q11 := ExtW.cell (hq)
         repeat (first | go_big_quiet_step (((first | (go_at_call 221; exact Calls.ext_of (s_ValidHop x.hops[k] _)) | (go_at_call 222; exact Calls.ext_of (s_l5Realm t _ _ x.hops[k].asn _ ((ha.ext ((hx0.trans hz5).trans hx)).ext (ExtW.h _))))))) | quiet_step (((first | (go_at_call 221; exact Calls.ext_of (s_ValidHop x.hops[k] _)) | (go_at_call 222; exact Calls.ext_of (s_l5Realm t _ _ x.hops[k].asn _ ((ha.ext ((hx0.trans hz5).trans hx)).ext (ExtW.h _))))))))
         refine wpQuiet_nil ?_
         intro w7 hw7
         have hz7 := ExtW.out hw7
         clear hw7 q0 q1 q2 q3 q4 q5 q6 q7 q8 q9 q10 q11
         have HE := Lib.hid (validPart_7 (t := t) hlt (show hopFresh t x.hops k = false by unfold hopFresh; rw [HAT.out, HML.out]; simp only [b1, b2, Bool.false_and, Bool.and_false]))
         try clear cf11
         try clear cf12
         have cf13 := blk2 (Ext.block ((hz5.trans hx).trans hz7) HB0.out.1)
         have cf14 := blk4 (Ext.block ((hz5.trans hx).trans hz7) HB0.out.2)
         have cf15 := Hop.at_ext hz7 hc
         have cf16 := Ext.cell hz7 hq
         go_wp2_with fail
         go_ret
         exact ⟨ret_bool HE.out.symm, (((hx0.trans hz5).trans hx).trans hz7)⟩
        ·
         cases b3 : hasI (ml.take k) x.hops[k].asn
         ·
          have HK2 := Lib.hid (allTo_snoc HK.out (show hopFresh t x.hops k = true by unfold hopFresh; rw [HAT.out, HML.out, b1, b2, b3]; rfl))
          try clear cf3
          try clear cf4
          have cf17 := blk2 (Ext.block (hz5.trans hx) HB0.out.1)
          have cf18 := blk4 (Ext.block (hz5.trans hx) HB0.out.2)
          go_wp2_with fail
          refine wp_region_ext (by kernel_rfl) (by kernel_rfl) ?_
          have q0 := ExtW.cell (cf17.1)
          have q1 := ExtW.cell (cf17.2)
          have q2 := ExtW.cell (cf18.1)
          have q3 := ExtW.cell (cf18.2.1)
          have q4 := ExtW.cell (cf18.2.2.1)
          have q5 := ExtW.cell (cf18.2.2.2)
          have q6 := ExtW.cell (hc.1)
          have q7 := ExtW.cell (hc.2.1)
          have q8 := ExtW.cell (hc.2.2.1)
          have q9 := ExtW.cell (hc.2.2.2.1)
          have q10 := ExtW.cell (hc.2.2.2.2)
          have q11 := ExtW.cell (hq)
          repeat (first | go_big_quiet_step (((first | (go_at_call 221; exact Calls.ext_of (s_ValidHop x.hops[k] _)) | (go_at_call 222; exact Calls.ext_of (s_l5Realm t _ _ x.hops[k].asn _ ((ha.ext ((hx0.trans hz5).trans hx)).ext (ExtW.h _)))) | (go_at_call 179; exact Calls.ext_same (s_l9Has (ml.take k) _ x.hops[k].asn _ ((hqk.ext hx).ext (ExtW.h _))))))) | quiet_step (((first | (go_at_call 221; exact Calls.ext_of (s_ValidHop x.hops[k] _)) | (go_at_call 222; exact Calls.ext_of (s_l5Realm t _ _ x.hops[k].asn _ ((ha.ext ((hx0.trans hz5).trans hx)).ext (ExtW.h _)))) | (go_at_call 179; exact Calls.ext_same (s_l9Has (ml.take k) _ x.hops[k].asn _ ((hqk.ext hx).ext (ExtW.h _))))))))
          refine wpQuiet_nil ?_
          intro w8 hw8
          have hz8 := ExtW.out hw8
          clear hw8 q0 q1 q2 q3 q4 q5 q6 q7 q8 q9 q10 q11
          rcases Nat.eq_zero_or_pos k with rfl | hk0
          ·
           try clear cf17
           try clear cf18
           have cf19 := blk2 (Ext.block ((hz5.trans hx).trans hz8) HB0.out.1)
           have cf20 := blk4 (Ext.block ((hz5.trans hx).trans hz8) HB0.out.2)
           have cf21 := Hop.at_ext hz8 hc
           have cf22 := Ext.cell hz8 hq
           go_wp2_with fail
           go_roundg (gk - 1)
           case measure => exact HG.out.2
           case rel => exact ⟨0 + 1, HG.out.1, by go_num, HK2, Lib.hid rfl, (hx.trans hz8)⟩
          ·
           obtain ⟨j, hj⟩ : ∃ j, k = j + 1 := ⟨k - 1, by omega⟩
           have hjl : j < x.hops.length := by omega
           have hjm : j < ml.length := by rw [HLM.out]; exact hjl
           have h1 : j + 1 < x.hops.length := by omega
           have h3 : Hid (j < x.hops.length - 1) := Lib.hid (by omega)
           have hk1 : (0 : Int) < (k : Int) := by omega
           have HJ2 : Hid (joinAt t x j = ((partEg x j != 0) && ((remEnd t x.hops[j].asn (partEg x j)).1 == x.hops[k].asn) && ((remEnd t x.hops[j].asn (partEg x j)).2 == partIn x (k : Int)))) := by
            refine Lib.hid ?_
            rw [joinAt_of hjl h1]
            have e1 : (k : Int) = (j : Int) + 1 := by omega
            rw [e1]
            simp only [hj]
           have hw1 : IntKind.i64.wrap ((k : Int) - 1) = (j : Int) := by rw [IntWalk.i64_in _ (by omega)]; omega
           have hw2 : (k : Int) - 1 = (j : Int) := by omega
           have HJJ := Lib.hid hj
           obtain ⟨bj, oj, ej, hqj⟩ := ints_at (hqr.ext (hx.trans hz8)) j hjm
           have hgm : ml[j] = x.hops[j].asn := by simp only [← HML.out, List.getElem_map]
           rw [hgm] at hqj
           cases ej
           have h7 : (j : Int) < (x.hops.length : Int) := by omega
           have h8 : (0 : Int) ≤ (j : Int) := by omega
           have HW2 := Lib.hid hw2
           clear hw2 hj hgm
           generalize he : partEg x (j : Int) = eg at *
           have HEG := Lib.hid he; clear he
           try clear cf17
           try clear cf18
           have cf23 := blk2 (Ext.block ((hz5.trans hx).trans hz8) HB0.out.1)
           have cf24 := blk4 (Ext.block ((hz5.trans hx).trans hz8) HB0.out.2)
           have cf25 := Hop.at_ext hz8 hc
           have cf26 := Ext.cell hz8 hq
           go_wp2_with fail
           refine wp_region_ext (by kernel_rfl) (by kernel_rfl) ?_
           have q0 := ExtW.cell (cf23.1)
           have q1 := ExtW.cell (cf23.2)
           have q2 := ExtW.cell (cf24.1)
           have q3 := ExtW.cell (cf24.2.1)
           have q4 := ExtW.cell (cf24.2.2.1)
           have q5 := ExtW.cell (cf24.2.2.2)
           have q6 := ExtW.cell (cf25.1)
           have q7 := ExtW.cell (cf25.2.1)
           have q8 := ExtW.cell (cf25.2.2.1)
           have q9 := ExtW.cell (cf25.2.2.2.1)
           have q10 := ExtW.cell (cf25.2.2.2.2)
           have q11 := ExtW.cell (cf26)
           have q12 := ExtW.cell (hqj)
           repeat (first | go_big_quiet_step (((first | (go_at_call 189; exact Calls.ext_of (HEG.out ▸ s_PartEgress x _ (j : Int) _ ((r.ext (((hx0.trans hz5).trans hx).trans hz8)).ext (ExtW.h _)))) | (go_at_call 202; exact Calls.ext_of (s_RemoteEnd t _ _ x.hops[j].asn eg _ ((hk.ext (((hx0.trans hz5).trans hx).trans hz8)).ext (ExtW.h _))))))) | quiet_step (((first | (go_at_call 189; exact Calls.ext_of (HEG.out ▸ s_PartEgress x _ (j : Int) _ ((r.ext (((hx0.trans hz5).trans hx).trans hz8)).ext (ExtW.h _)))) | (go_at_call 202; exact Calls.ext_of (s_RemoteEnd t _ _ x.hops[j].asn eg _ ((hk.ext (((hx0.trans hz5).trans hx).trans hz8)).ext (ExtW.h _))))))))
           refine wpQuiet_nil ?_
           intro w9 hw9
           have hz9 := ExtW.out hw9
           clear hw9 q0 q1 q2 q3 q4 q5 q6 q7 q8 q9 q10 q11 q12
           clear hw1
           have hw2 := HW2.out
           generalize hR : remEnd t x.hops[j].asn eg = R at *
           have HR := Lib.hid hR; clear hR
           try clear cf23
           try clear cf24
           try clear cf25
           try clear cf26
           have cf27 := blk2 (Ext.block (((hz5.trans hx).trans hz8).trans hz9) HB0.out.1)
           have cf28 := blk4 (Ext.block (((hz5.trans hx).trans hz8).trans hz9) HB0.out.2)
           have cf29 := Hop.at_ext (hz8.trans hz9) hc
           have cf30 := Ext.cell (hz8.trans hz9) hq
           have cf31 := Ext.cell hz9 hqj
           go_wp2_with fail
           refine (HEG.out ▸ s_PartEgress x _ (j : Int) _ (r.ext ((((hx0.trans hz5).trans hx).trans hz8).trans hz9))).mono ?_
           rintro e w10 ⟨rfl, hz10⟩
           clear hw2
           cases b4 : (eg == 0)
           ·
            cases b5 : (R.1 == x.hops[k].asn)
            ·
             have b5' : (R.1 != x.hops[k].asn) = true := by simp only [bne, b5]; rfl
             have HE := Lib.hid (validPart_5 (t := t) h3.out (show joinAt t x j = false by rw [HJ2.out]; simp only [bne, b4, b5, Bool.not_false, Bool.false_and, Bool.and_false]))
             try clear cf27
             try clear cf28
             try clear cf29
             try clear cf30
             try clear cf31
             have cf32 := blk2 (Ext.block ((((hz5.trans hx).trans hz8).trans hz9).trans hz10) HB0.out.1)
             have cf33 := blk4 (Ext.block ((((hz5.trans hx).trans hz8).trans hz9).trans hz10) HB0.out.2)
             have cf34 := Hop.at_ext ((hz8.trans hz9).trans hz10) hc
             have cf35 := Ext.cell ((hz8.trans hz9).trans hz10) hq
             have cf36 := Ext.cell (hz9.trans hz10) hqj
             go_wp2_with fail
             go_ret
             exact ⟨ret_bool HE.out.symm, (((((hx0.trans hz5).trans hx).trans hz8).trans hz9).trans hz10)⟩
            ·
             have b5' : (R.1 != x.hops[k].asn) = false := by simp only [bne, b5]; rfl
             try clear cf27
             try clear cf28
             try clear cf29
             try clear cf30
             try clear cf31
             have cf37 := blk2 (Ext.block ((((hz5.trans hx).trans hz8).trans hz9).trans hz10) HB0.out.1)
             have cf38 := blk4 (Ext.block ((((hz5.trans hx).trans hz8).trans hz9).trans hz10) HB0.out.2)
             have cf39 := Hop.at_ext ((hz8.trans hz9).trans hz10) hc
             have cf40 := Ext.cell ((hz8.trans hz9).trans hz10) hq
             have cf41 := Ext.cell (hz9.trans hz10) hqj
             go_wp2_with fail
             refine (s_PartIngress x _ (k : Int) _ (r.ext (((((hx0.trans hz5).trans hx).trans hz8).trans hz9).trans hz10))).mono ?_
             rintro e w11 ⟨rfl, hz11⟩
             cases b6 : (R.2 == partIn x (k : Int))
             ·
              have b6' : (R.2 != partIn x (k : Int)) = true := by simp only [bne, b6]; rfl
              have HE := Lib.hid (validPart_5 (t := t) h3.out (show joinAt t x j = false by rw [HJ2.out]; simp only [bne, b4, b5, b6, Bool.not_false, Bool.and_false, Bool.true_and]))
              try clear cf37
              try clear cf38
              try clear cf39
              try clear cf40
              try clear cf41
              have cf42 := blk2 (Ext.block (((((hz5.trans hx).trans hz8).trans hz9).trans hz10).trans hz11) HB0.out.1)
              have cf43 := blk4 (Ext.block (((((hz5.trans hx).trans hz8).trans hz9).trans hz10).trans hz11) HB0.out.2)
              have cf44 := Hop.at_ext (((hz8.trans hz9).trans hz10).trans hz11) hc
              have cf45 := Ext.cell (((hz8.trans hz9).trans hz10).trans hz11) hq
              have cf46 := Ext.cell ((hz9.trans hz10).trans hz11) hqj
              go_wp2_with fail
              go_ret
              exact ⟨ret_bool HE.out.symm, ((((((hx0.trans hz5).trans hx).trans hz8).trans hz9).trans hz10).trans hz11)⟩
             ·
              have b6' : (R.2 != partIn x (k : Int)) = false := by simp only [bne, b6]; rfl
              have HL2 : Hid (allTo (joinAt t x) (k + 1 - 1) = true) := Lib.hid (by have h := HL.out; rw [HJJ.out] at h ⊢; exact allTo_snoc h (show joinAt t x j = true by rw [HJ2.out]; simp only [bne, b4, b5, b6]; rfl))
              try clear cf37
              try clear cf38
              try clear cf39
              try clear cf40
              try clear cf41
              have cf47 := blk2 (Ext.block (((((hz5.trans hx).trans hz8).trans hz9).trans hz10).trans hz11) HB0.out.1)
              have cf48 := blk4 (Ext.block (((((hz5.trans hx).trans hz8).trans hz9).trans hz10).trans hz11) HB0.out.2)
              have cf49 := Hop.at_ext (((hz8.trans hz9).trans hz10).trans hz11) hc
              have cf50 := Ext.cell (((hz8.trans hz9).trans hz10).trans hz11) hq
              have cf51 := Ext.cell ((hz9.trans hz10).trans hz11) hqj
              go_wp2_with fail
              go_roundg (gk - 1)
              case measure => exact HG.out.2
              case rel => exact ⟨k + 1, HG.out.1, by go_num, HK2, HL2, ((((hx.trans hz8).trans hz9).trans hz10).trans hz11)⟩
           ·
            have HE := Lib.hid (validPart_5 (t := t) h3.out (show joinAt t x j = false by rw [HJ2.out]; simp only [bne, b4, Bool.not_true, Bool.false_and]))
            try clear cf27
            try clear cf28
            try clear cf29
            try clear cf30
            try clear cf31
            have cf52 := blk2 (Ext.block ((((hz5.trans hx).trans hz8).trans hz9).trans hz10) HB0.out.1)
            have cf53 := blk4 (Ext.block ((((hz5.trans hx).trans hz8).trans hz9).trans hz10) HB0.out.2)
            have cf54 := Hop.at_ext ((hz8.trans hz9).trans hz10) hc
            have cf55 := Ext.cell ((hz8.trans hz9).trans hz10) hq
            have cf56 := Ext.cell (hz9.trans hz10) hqj
            go_wp2_with fail
            go_ret
            exact ⟨ret_bool HE.out.symm, (((((hx0.trans hz5).trans hx).trans hz8).trans hz9).trans hz10)⟩
         ·
          try clear cf3
          try clear cf4
          have cf57 := blk2 (Ext.block (hz5.trans hx) HB0.out.1)
          have cf58 := blk4 (Ext.block (hz5.trans hx) HB0.out.2)
          go_wp2_with fail
          refine wp_region_ext (by kernel_rfl) (by kernel_rfl) ?_
          have q0 := ExtW.cell (cf57.1)
          have q1 := ExtW.cell (cf57.2)
          have q2 := ExtW.cell (cf58.1)
          have q3 := ExtW.cell (cf58.2.1)
          have q4 := ExtW.cell (cf58.2.2.1)
          have q5 := ExtW.cell (cf58.2.2.2)
          have q6 := ExtW.cell (hc.1)
          have q7 := ExtW.cell (hc.2.1)
          have q8 := ExtW.cell (hc.2.2.1)
          have q9 := ExtW.cell (hc.2.2.2.1)
          have q10 := ExtW.cell (hc.2.2.2.2)
          have q11 := ExtW.cell (hq)
          repeat (first | go_big_quiet_step (((first | (go_at_call 221; exact Calls.ext_of (s_ValidHop x.hops[k] _)) | (go_at_call 222; exact Calls.ext_of (s_l5Realm t _ _ x.hops[k].asn _ ((ha.ext ((hx0.trans hz5).trans hx)).ext (ExtW.h _)))) | (go_at_call 179; exact Calls.ext_same (s_l9Has (ml.take k) _ x.hops[k].asn _ ((hqk.ext hx).ext (ExtW.h _))))))) | quiet_step (((first | (go_at_call 221; exact Calls.ext_of (s_ValidHop x.hops[k] _)) | (go_at_call 222; exact Calls.ext_of (s_l5Realm t _ _ x.hops[k].asn _ ((ha.ext ((hx0.trans hz5).trans hx)).ext (ExtW.h _)))) | (go_at_call 179; exact Calls.ext_same (s_l9Has (ml.take k) _ x.hops[k].asn _ ((hqk.ext hx).ext (ExtW.h _))))))))
          refine wpQuiet_nil ?_
          intro w12 hw12
          have hz12 := ExtW.out hw12
          clear hw12 q0 q1 q2 q3 q4 q5 q6 q7 q8 q9 q10 q11
          have HE := Lib.hid (validPart_7 (t := t) hlt (show hopFresh t x.hops k = false by unfold hopFresh; rw [HAT.out, HML.out]; simp only [b1, b2, b3, Bool.not_true, Bool.and_false, Bool.true_and]))
          try clear cf57
          try clear cf58
          have cf59 := blk2 (Ext.block ((hz5.trans hx).trans hz12) HB0.out.1)
          have cf60 := blk4 (Ext.block ((hz5.trans hx).trans hz12) HB0.out.2)
          have cf61 := Hop.at_ext hz12 hc
          have cf62 := Ext.cell hz12 hq
          go_wp2_with fail
          go_ret
          exact ⟨ret_bool HE.out.symm, (((hx0.trans hz5).trans hx).trans hz12)⟩
      ·
       obtain rfl : k = x.hops.length := by omega
       have HE := Lib.hid (show validPart t x = true by unfold validPart hopsOk; rw [B1.out, B2.out, B3.out, B4.out, HK.out, HL.out]; rfl)
       try clear cf3
       try clear cf4
       have cf63 := blk2 (Ext.block (hz5.trans hx) HB0.out.1)
       have cf64 := blk4 (Ext.block (hz5.trans hx) HB0.out.2)
       go_wp2_with fail
       go_ret
       exact ⟨ret_bool HE.out.symm, ((hx0.trans hz5).trans hx)⟩
end
section
open Go.ChangeShapes Go.WideShapes Go.ChangeAt Go.RowKit Go.Deep
set_option maxHeartbeats 400000 in
theorem s_l22Rank (k : Int) (w : World) :
  Calls Tryz.prog 279 #[.int .i64 k] w fun e w' => e = .returned (.int .i64 (rank k)) ∧ w = w' := by
 go_enter Tryz.func279, Tryz.ntmps279

 cases b1 : (k == 1) <;> cases b2 : (k == 2) <;> cases b3 : (k == 3)
 all_goals
  go_wp2
  go_ret
  exact ⟨ret_int (by unfold rank; rw [b1, b2, b3]; rfl), rfl⟩
set_option maxRecDepth 100000 in
set_option maxHeartbeats 8000000 in
theorem s_WellFormedPath (t : Topo) (v1 v2 : Value) (p : Pth) (v : Value) (w : World) (ha : RdS ASd.rep w v1 t.ases) (hk : RdS Lnk.rep w v2 t.links) (r : RdS Part.rep w v p.parts) :
  Calls Tryz.prog 247 #[.agg #[v1, v2], .agg #[v]] w fun e w' => e = .returned (.bool (wfPath t p)) ∧ Ext w w' := by
 obtain ⟨o, cap, rfl, hsm⟩ := r.shape
 have hx0 := ext2 w (.cells #[v1, v2] 33) (.cells #[.slice o p.parts.length cap] 26)
 have HB0 := Lib.hid (al2 w (.cells #[v1, v2] 33) (.cells #[.slice o p.parts.length cap] 26))
 go_enter Tryz.func247, Tryz.ntmps247
 have cf1 := blk2 HB0.out.1
 have cf2 := blk1 HB0.out.2
 go_wp2_with fail
 refine (s_l1In _ _ _ _).mono ?_
 rintro e _ ⟨rfl, rfl⟩
 cases bb : inR (p.parts.length : Int) 1 3
 ·
  have HE := Lib.hid (show wfPath t p = false by unfold wfPath; rw [bb]; rfl)
  go_wp2_with fail
  go_ret
  exact ⟨ret_bool HE.out.symm, hx0⟩
 ·
  have HL := Lib.hid (show wfPath t p = allTo (partOk t p.parts) p.parts.length by unfold wfPath; rw [bb]; rfl)
  clear bb
  obtain ⟨W0, hW0⟩ : ∃ W0 : World, W0 = (w.alloc (.cells #[v1, v2] 33)).alloc (.cells #[.slice o p.parts.length cap] 26) := ⟨_, rfl⟩
  rw [← hW0] at hx0 HB0
  go_wp2_with fail
  rw [← hW0]
  clear hW0
  go_loopg [5] p.parts.length (fun gk i wr => ∃ k : Nat, gk + k = p.parts.length ∧ i = .int .i64 k ∧ Hid (allTo (partOk t p.parts) k = true) ∧ Ext W0 wr)
  case atStart => exact ⟨0, rfl, rfl, Lib.hid rfl, Ext.refl _⟩
  case round =>
   obtain ⟨k, hgk, rfl, HK, hx⟩ := hrel
   by_cases hlt : k < p.parts.length
   ·
    have HG := Lib.hid (show gk - 1 + (k + 1) = p.parts.length ∧ gk - 1 < gk by omega); clear hgk
    have HAT := Lib.hid (partAt_at hlt)
    obtain ⟨b, off, oh, ch, rfl, hc, hr⟩ := Part.at (r.ext (hx0.trans hx)) k hlt
    have h4 : (k : Int) < (p.parts.length : Int) := by omega
    try clear cf1
    try clear cf2
    have cf3 := blk2 (Ext.block hx HB0.out.1)
    have cf4 := blk1 (Ext.block hx HB0.out.2)
    go_wp2_with fail
    refine wp_region_ext (by kernel_rfl) (by kernel_rfl) ?_
    have q0 := ExtW.cell (cf3.1)
    have q1 := ExtW.cell (cf3.2)
    have q2 := ExtW.cell (cf4)
    have q3 := ExtW.cell (hc.1)
    have q4 := ExtW.cell (hc.2.1)
    have q5 := ExtW.cell (hc.2.2.1)
    have q6 := ExtW.cell (hc.2.2.2)
    repeat (first | go_big_quiet_step (((first | (go_at_call 278; exact Calls.ext_of (s_ValidPart t _ _ p.parts[k] _ _ ((ha.ext (hx0.trans hx)).ext (ExtW.h _)) ((hk.ext (hx0.trans hx)).ext (ExtW.h _)) ((hr.ext (Ext.refl _)).ext (ExtW.h _))))))) | quiet_step (((first | (go_at_call 278; exact Calls.ext_of (s_ValidPart t _ _ p.parts[k] _ _ ((ha.ext (hx0.trans hx)).ext (ExtW.h _)) ((hk.ext (hx0.trans hx)).ext (ExtW.h _)) ((hr.ext (Ext.refl _)).ext (ExtW.h _))))))))
    refine wpQuiet_nil ?_
    intro w1 hw1
    have hz1 := ExtW.out hw1
    clear hw1 q0 q1 q2 q3 q4 q5 q6
    cases b1 : validPart t p.parts[k]
    ·
     have HE := Lib.hid (wf_no (t := t) hlt (show partOk t p.parts k = false by unfold partOk; rw [HAT.out, b1]; rfl))
     try clear cf3
     try clear cf4
     have cf5 := blk2 (Ext.block (hx.trans hz1) HB0.out.1)
     have cf6 := blk1 (Ext.block (hx.trans hz1) HB0.out.2)
     have cf7 := Part.at_ext hz1 hc
     go_wp2_with fail
     go_ret
     exact ⟨ret_bool HE.out.symm, ((hx0.trans hx).trans hz1)⟩
    ·
     have hl1 := validPart_len b1
     rcases Nat.eq_zero_or_pos k with rfl | hk0
     ·
      have HK2 : Hid (allTo (partOk t p.parts) (0 + 1) = true) := Lib.hid (allTo_snoc rfl (show partOk t p.parts 0 = true by unfold partOk; rw [HAT.out, b1]; rfl))
      try clear cf3
      try clear cf4
      have cf8 := blk2 (Ext.block (hx.trans hz1) HB0.out.1)
      have cf9 := blk1 (Ext.block (hx.trans hz1) HB0.out.2)
      have cf10 := Part.at_ext hz1 hc
      go_wp2_with fail
      go_roundg (gk - 1)
      case measure => exact HG.out.2
      case rel => exact ⟨0 + 1, HG.out.1, by go_num, HK2, (hx.trans hz1)⟩
     ·
      obtain ⟨j, hj⟩ : ∃ j, k = j + 1 := ⟨k - 1, by omega⟩
      have hjl : j < p.parts.length := by omega
      have hvj := partOk_valid HK.out (show j < k by omega) hjl
      have hl2 := validPart_len hvj
      have HJJ := Lib.hid hj
      have hk1 : (0 : Int) < (k : Int) := by omega
      have hw2 : (k : Int) - 1 = (j : Int) := by omega
      obtain ⟨bj, offj, ohj, chj, ej, hd, hrj⟩ := Part.at (r.ext ((hx0.trans hx).trans hz1)) j hjl
      cases ej
      have h7 : (j : Int) < (p.parts.length : Int) := by omega
      have h8 : (0 : Int) ≤ (j : Int) := by omega
      have hl3 : p.parts[j].hops.length - 1 < p.parts[j].hops.length := by omega
      have hl4 : 0 < p.parts[k].hops.length := by omega
      have HF := Lib.hid (followAt_of hj hjl hlt hl3 hl4)
      have hwl : IntKind.i64.wrap ((p.parts[j].hops.length : Int) - 1) = ((p.parts[j].hops.length - 1 : Nat) : Int) := by rw [IntWalk.i64_in _ (by omega)]; omega
      have hl5 : ((p.parts[j].hops.length - 1 : Nat) : Int) < (p.parts[j].hops.length : Int) := by omega
      have hl6 : (0 : Int) ≤ ((p.parts[j].hops.length - 1 : Nat) : Int) := by omega
      have hl7 : (0 : Int) < (p.parts[k].hops.length : Int) := by omega
      clear hj hvj
      obtain ⟨b3, off3, e3, ht3⟩ := Hop.at hrj (p.parts[j].hops.length - 1) hl3
      obtain ⟨b4, off4, e4, ht4⟩ := Hop.at (hr.ext hz1) 0 hl4
      cases e3
      cases e4
      simp only [Nat.zero_mul, Nat.add_zero] at ht4
      try clear cf3
      try clear cf4
      have cf11 := blk2 (Ext.block (hx.trans hz1) HB0.out.1)
      have cf12 := blk1 (Ext.block (hx.trans hz1) HB0.out.2)
      have cf13 := Part.at_ext hz1 hc
      generalize hlst : p.parts[j].hops.length - 1 = lst at *
      have HLST := Lib.hid hlst; clear hlst
      have hx2 : Ext w1 (w1.alloc (.cells #[.int .i64 p.parts[j].kind, .int .i64 p.parts[j].ts, .int .i64 p.parts[j].beta, .slice (some ⟨b3, off3, none⟩) p.parts[j].hops.length chj] 47)) := (Ext.refl _).alloc _
      have HB2 := Lib.hid (blk_new w1 (.cells #[.int .i64 p.parts[j].kind, .int .i64 p.parts[j].ts, .int .i64 p.parts[j].beta, .slice (some ⟨b3, off3, none⟩) p.parts[j].hops.length chj] 47))
      go_wp2_with fail
      clear hw2
      by_cases hge : rank p.parts[k].kind ≤ rank p.parts[j].kind
      ·
       have hge2 : decide (rank p.parts[k].kind ≤ rank p.parts[j].kind) = true := decide_eq_true hge
       have cf14 := blk2 (Ext.block ((hx.trans hz1).trans hx2) HB0.out.1)
       have cf15 := blk1 (Ext.block ((hx.trans hz1).trans hx2) HB0.out.2)
       have cf16 := blk4 HB2.out
       have cf17 := Part.at_ext (hz1.trans hx2) hc
       have cf18 := Part.at_ext hx2 hd
       have cf19 := Hop.at_ext hx2 ht3
       have cf20 := hop0_ext hx2 ht4
       go_wp2_with fail
       refine wp_region_ext (by kernel_rfl) (by kernel_rfl) ?_
       have q0 := ExtW.cell (cf14.1)
       have q1 := ExtW.cell (cf14.2)
       have q2 := ExtW.cell (cf15)
       have q3 := ExtW.cell (cf16.1)
       have q4 := ExtW.cell (cf16.2.1)
       have q5 := ExtW.cell (cf16.2.2.1)
       have q6 := ExtW.cell (cf16.2.2.2)
       have q7 := ExtW.cell (cf17.1)
       have q8 := ExtW.cell (cf17.2.1)
       have q9 := ExtW.cell (cf17.2.2.1)
       have q10 := ExtW.cell (cf17.2.2.2)
       have q11 := ExtW.cell (cf18.1)
       have q12 := ExtW.cell (cf18.2.1)
       have q13 := ExtW.cell (cf18.2.2.1)
       have q14 := ExtW.cell (cf18.2.2.2)
       have q15 := ExtW.cell (cf19.1)
       have q16 := ExtW.cell (cf19.2.1)
       have q17 := ExtW.cell (cf19.2.2.1)
       have q18 := ExtW.cell (cf19.2.2.2.1)
       have q19 := ExtW.cell (cf19.2.2.2.2)
       have q20 := ExtW.cell (cf20.1)
       have q21 := ExtW.cell (cf20.2.1)
       have q22 := ExtW.cell (cf20.2.2.1)
       have q23 := ExtW.cell (cf20.2.2.2.1)
       have q24 := ExtW.cell (cf20.2.2.2.2)
       repeat (first | go_big_quiet_step (((first | (go_at_call 279; exact Calls.ext_same (s_l22Rank _ _))))) | quiet_step (((first | (go_at_call 279; exact Calls.ext_same (s_l22Rank _ _))))))
       refine wpQuiet_nil ?_
       intro w2 hw2
       have hz2 := ExtW.out hw2
       clear hw2 q0 q1 q2 q3 q4 q5 q6 q7 q8 q9 q10 q11 q12 q13 q14 q15 q16 q17 q18 q19 q20 q21 q22 q23 q24
       have HE := Lib.hid (wf_no (t := t) hlt (show partOk t p.parts k = false by unfold partOk; rw [show k - 1 = j by rw [HJJ.out]; rfl, HF.out, decide_eq_false (by omega)]; simp; omega))
       try clear cf14
       try clear cf15
       try clear cf16
       try clear cf17
       try clear cf18
       try clear cf19
       try clear cf20
       have cf21 := blk2 (Ext.block (((hx.trans hz1).trans hx2).trans hz2) HB0.out.1)
       have cf22 := blk1 (Ext.block (((hx.trans hz1).trans hx2).trans hz2) HB0.out.2)
       have cf23 := blk4 (Ext.block hz2 HB2.out)
       have cf24 := Part.at_ext ((hz1.trans hx2).trans hz2) hc
       have cf25 := Part.at_ext (hx2.trans hz2) hd
       have cf26 := Hop.at_ext (hx2.trans hz2) ht3
       have cf27 := hop0_ext (hx2.trans hz2) ht4
       go_wp2_with fail
       go_ret
       exact ⟨ret_bool HE.out.symm, ((((hx0.trans hx).trans hz1).trans hx2).trans hz2)⟩
      ·
       have hge2 : decide (rank p.parts[k].kind ≤ rank p.parts[j].kind) = false := decide_eq_false hge
       cases b5 : (p.parts[j].hops[lst].asn == p.parts[k].hops[0].asn)
       ·
        have b5' : (p.parts[j].hops[lst].asn != p.parts[k].hops[0].asn) = true := by simp only [bne, b5]; rfl
        have cf28 := blk2 (Ext.block ((hx.trans hz1).trans hx2) HB0.out.1)
        have cf29 := blk1 (Ext.block ((hx.trans hz1).trans hx2) HB0.out.2)
        have cf30 := blk4 HB2.out
        have cf31 := Part.at_ext (hz1.trans hx2) hc
        have cf32 := Part.at_ext hx2 hd
        have cf33 := Hop.at_ext hx2 ht3
        have cf34 := hop0_ext hx2 ht4
        go_wp2_with fail
        refine wp_region_ext (by kernel_rfl) (by kernel_rfl) ?_
        have q0 := ExtW.cell (cf28.1)
        have q1 := ExtW.cell (cf28.2)
        have q2 := ExtW.cell (cf29)
        have q3 := ExtW.cell (cf30.1)
        have q4 := ExtW.cell (cf30.2.1)
        have q5 := ExtW.cell (cf30.2.2.1)
        have q6 := ExtW.cell (cf30.2.2.2)
        have q7 := ExtW.cell (cf31.1)
        have q8 := ExtW.cell (cf31.2.1)
        have q9 := ExtW.cell (cf31.2.2.1)
        have q10 := ExtW.cell (cf31.2.2.2)
        have q11 := ExtW.cell (cf32.1)
        have q12 := ExtW.cell (cf32.2.1)
        have q13 := ExtW.cell (cf32.2.2.1)
        have q14 := ExtW.cell (cf32.2.2.2)
        have q15 := ExtW.cell (cf33.1)
        have q16 := ExtW.cell (cf33.2.1)
        have q17 := ExtW.cell (cf33.2.2.1)
        have q18 := ExtW.cell (cf33.2.2.2.1)
        have q19 := ExtW.cell (cf33.2.2.2.2)
        have q20 := ExtW.cell (cf34.1)
        have q21 := ExtW.cell (cf34.2.1)
        have q22 := ExtW.cell (cf34.2.2.1)
        have q23 := ExtW.cell (cf34.2.2.2.1)
        have q24 := ExtW.cell (cf34.2.2.2.2)
        repeat (first | go_big_quiet_step (((first | (go_at_call 279; exact Calls.ext_same (s_l22Rank _ _))))) | quiet_step (((first | (go_at_call 279; exact Calls.ext_same (s_l22Rank _ _))))))
        refine wpQuiet_nil ?_
        intro w3 hw3
        have hz3 := ExtW.out hw3
        clear hw3 q0 q1 q2 q3 q4 q5 q6 q7 q8 q9 q10 q11 q12 q13 q14 q15 q16 q17 q18 q19 q20 q21 q22 q23 q24
        have HE := Lib.hid (wf_no (t := t) hlt (show partOk t p.parts k = false by unfold partOk; rw [show k - 1 = j by rw [HJJ.out]; rfl, HF.out]; simp only [b5]; simp; omega))
        try clear cf28
        try clear cf29
        try clear cf30
        try clear cf31
        try clear cf32
        try clear cf33
        try clear cf34
        have cf35 := blk2 (Ext.block (((hx.trans hz1).trans hx2).trans hz3) HB0.out.1)
        have cf36 := blk1 (Ext.block (((hx.trans hz1).trans hx2).trans hz3) HB0.out.2)
        have cf37 := blk4 (Ext.block hz3 HB2.out)
        have cf38 := Part.at_ext ((hz1.trans hx2).trans hz3) hc
        have cf39 := Part.at_ext (hx2.trans hz3) hd
        have cf40 := Hop.at_ext (hx2.trans hz3) ht3
        have cf41 := hop0_ext (hx2.trans hz3) ht4
        go_wp2_with fail
        go_ret
        exact ⟨ret_bool HE.out.symm, ((((hx0.trans hx).trans hz1).trans hx2).trans hz3)⟩
       ·
        have b5' : (p.parts[j].hops[lst].asn != p.parts[k].hops[0].asn) = false := by simp only [bne, b5]; rfl
        have cf42 := blk2 (Ext.block ((hx.trans hz1).trans hx2) HB0.out.1)
        have cf43 := blk1 (Ext.block ((hx.trans hz1).trans hx2) HB0.out.2)
        have cf44 := blk4 HB2.out
        have cf45 := Part.at_ext (hz1.trans hx2) hc
        have cf46 := Part.at_ext hx2 hd
        have cf47 := Hop.at_ext hx2 ht3
        have cf48 := hop0_ext hx2 ht4
        go_wp2_with fail
        refine wp_region_ext (by kernel_rfl) (by kernel_rfl) ?_
        have q0 := ExtW.cell (cf42.1)
        have q1 := ExtW.cell (cf42.2)
        have q2 := ExtW.cell (cf43)
        have q3 := ExtW.cell (cf44.1)
        have q4 := ExtW.cell (cf44.2.1)
        have q5 := ExtW.cell (cf44.2.2.1)
        have q6 := ExtW.cell (cf44.2.2.2)
        have q7 := ExtW.cell (cf45.1)
        have q8 := ExtW.cell (cf45.2.1)
        have q9 := ExtW.cell (cf45.2.2.1)
        have q10 := ExtW.cell (cf45.2.2.2)
        have q11 := ExtW.cell (cf46.1)
        have q12 := ExtW.cell (cf46.2.1)
        have q13 := ExtW.cell (cf46.2.2.1)
        have q14 := ExtW.cell (cf46.2.2.2)
        have q15 := ExtW.cell (cf47.1)
        have q16 := ExtW.cell (cf47.2.1)
        have q17 := ExtW.cell (cf47.2.2.1)
        have q18 := ExtW.cell (cf47.2.2.2.1)
        have q19 := ExtW.cell (cf47.2.2.2.2)
        have q20 := ExtW.cell (cf48.1)
        have q21 := ExtW.cell (cf48.2.1)
        have q22 := ExtW.cell (cf48.2.2.1)
        have q23 := ExtW.cell (cf48.2.2.2.1)
        have q24 := ExtW.cell (cf48.2.2.2.2)
        repeat (first | go_big_quiet_step (((first | (go_at_call 279; exact Calls.ext_same (s_l22Rank _ _))))) | quiet_step (((first | (go_at_call 279; exact Calls.ext_same (s_l22Rank _ _))))))
        refine wpQuiet_nil ?_
        intro w4 hw4
        have hz4 := ExtW.out hw4
        clear hw4 q0 q1 q2 q3 q4 q5 q6 q7 q8 q9 q10 q11 q12 q13 q14 q15 q16 q17 q18 q19 q20 q21 q22 q23 q24
        have HK2 := Lib.hid (allTo_snoc HK.out (show partOk t p.parts k = true by unfold partOk; rw [show k - 1 = j by rw [HJJ.out]; rfl, HAT.out, b1, HF.out]; simp only [b5, decide_eq_true (show rank p.parts[j].kind < rank p.parts[k].kind by omega)]; simp))
        try clear cf42
        try clear cf43
        try clear cf44
        try clear cf45
        try clear cf46
        try clear cf47
        try clear cf48
        have cf49 := blk2 (Ext.block (((hx.trans hz1).trans hx2).trans hz4) HB0.out.1)
        have cf50 := blk1 (Ext.block (((hx.trans hz1).trans hx2).trans hz4) HB0.out.2)
        have cf51 := blk4 (Ext.block hz4 HB2.out)
        have cf52 := Part.at_ext ((hz1.trans hx2).trans hz4) hc
        have cf53 := Part.at_ext (hx2.trans hz4) hd
        have cf54 := Hop.at_ext (hx2.trans hz4) ht3
        have cf55 := hop0_ext (hx2.trans hz4) ht4
        go_wp2_with fail
        go_roundg (gk - 1)
        case measure => exact HG.out.2
        case rel => exact ⟨k + 1, HG.out.1, by go_num, HK2, (((hx.trans hz1).trans hx2).trans hz4)⟩
   ·
    obtain rfl : k = p.parts.length := by omega
    have HE := Lib.hid (HL.out.trans HK.out)
    try clear cf1
    try clear cf2
    have cf56 := blk2 (Ext.block hx HB0.out.1)
    have cf57 := blk1 (Ext.block hx HB0.out.2)
    go_wp2_with fail
    go_ret
    exact ⟨ret_bool HE.out.symm, (hx0.trans hx)⟩
end
section
open Go.ChangeShapes Go.WideShapes Go.ChangeAt Go.RowKit Go.Deep
set_option maxRecDepth 100000 in
set_option maxHeartbeats 4000000 in
theorem s_SimplePath (t : Topo) (v1 v2 : Value) (p : Pth) (v : Value) (w : World) (ha : RdS ASd.rep w v1 t.ases) (hk : RdS Lnk.rep w v2 t.links) (r : RdS Part.rep w v p.parts) (hl : p.size ≤ 1048576) :
  Calls Tryz.prog 185 #[.agg #[v1, v2], .agg #[v]] w fun e w' => e = .returned (.bool (simple t p)) ∧ Ext w w' := by
 obtain ⟨o, cap, rfl, hsm⟩ := r.shape
 have hx0 := ext2 w (.cells #[v1, v2] 33) (.cells #[.slice o p.parts.length cap] 26)
 have HB0 := Lib.hid (al2 w (.cells #[v1, v2] 33) (.cells #[.slice o p.parts.length cap] 26))
 go_enter Tryz.func185, Tryz.ntmps185
 have cf1 := blk2 HB0.out.1
 have cf2 := blk1 HB0.out.2
 go_wp2_with fail
 refine (s_WellFormedPath t _ _ p _ _ (ha.ext hx0) (hk.ext hx0) (r.ext hx0)).mono ?_
 rintro e w1 ⟨rfl, hz1⟩
 cases bb : wfPath t p
 ·
  have HE := Lib.hid (show simple t p = false by unfold simple; rw [bb]; rfl)
  try clear cf1
  try clear cf2
  have cf3 := blk2 (Ext.block hz1 HB0.out.1)
  have cf4 := blk1 (Ext.block hz1 HB0.out.2)
  go_wp2_with fail
  go_ret
  exact ⟨ret_bool HE.out.symm, (hx0.trans hz1)⟩
 ·
  have HS := Lib.hid (show simple t p = allTo (freshAt (usedIfs (pathSteps p.parts))) (usedIfs (pathSteps p.parts)).length by unfold simple; rw [bb]; rfl)
  have hul := usedIfs_len (pathSteps p.parts)
  have hpl := pathSteps_len p.parts
  have HNO := Lib.hid (fun (k : Nat) => simple_no (t := t) (p := p) (k := k))
  clear bb
  try clear cf1
  try clear cf2
  have cf5 := blk2 (Ext.block hz1 HB0.out.1)
  have cf6 := blk1 (Ext.block hz1 HB0.out.2)
  go_wp2_with fail
  refine (s_InterfacesUsed p _ _ (r.ext (hx0.trans hz1)) hl).mono ?_
  rintro e w2 ⟨u, rfl, oq, hz2⟩
  generalize usedIfs (pathSteps p.parts) = l at *
  obtain ⟨og, cg, rfl, _⟩ := (ints_rep oq).shape
  have hcg := (ints_rep oq).capLe
  have hqr := ints_rep oq
  clear oq
  try clear cf5
  try clear cf6
  have cf7 := blk2 (Ext.block (hz1.trans hz2) HB0.out.1)
  have cf8 := blk1 (Ext.block (hz1.trans hz2) HB0.out.2)
  go_wp2_with fail
  go_loopg [6] l.length (fun gk i wr => ∃ k : Nat, gk + k = l.length ∧ i = .int .i64 k ∧ Hid (allTo (freshAt l) k = true) ∧ Ext w2 wr)
  case atStart => exact ⟨0, rfl, rfl, Lib.hid rfl, Ext.refl _⟩
  case round =>
   obtain ⟨k, hgk, rfl, HK, hx⟩ := hrel
   by_cases hlt : k < l.length
   ·
    have HG := Lib.hid (show gk - 1 + (k + 1) = l.length ∧ gk - 1 < gk by omega); clear hgk
    have HAT := Lib.hid (freshAt_at hlt)
    obtain ⟨bq, oq, rfl, hq⟩ := ints_at (hqr.ext hx) k hlt
    have hqk := RdS.upto hqr k (by omega)
    have hkc : k ≤ cg := by omega
    have h4 : (k : Int) < (l.length : Int) := by omega
    have h6 : (k : Int) ≤ (cg : Int) := by omega
    try clear cf7
    try clear cf8
    have cf9 := blk2 (Ext.block ((hz1.trans hz2).trans hx) HB0.out.1)
    have cf10 := blk1 (Ext.block ((hz1.trans hz2).trans hx) HB0.out.2)
    go_wp2_with fail
    refine wp_region_ext (by kernel_rfl) (by kernel_rfl) ?_
    have q0 := ExtW.cell (cf9.1)
    have q1 := ExtW.cell (cf9.2)
    have q2 := ExtW.cell (cf10)
    have q3 := ExtW.cell (hq)
    repeat (first | go_big_quiet_step (((first | (go_at_call 179; exact Calls.ext_same (s_l9Has (l.take k) _ l[k] _ ((hqk.ext hx).ext (ExtW.h _))))))) | quiet_step (((first | (go_at_call 179; exact Calls.ext_same (s_l9Has (l.take k) _ l[k] _ ((hqk.ext hx).ext (ExtW.h _))))))))
    refine wpQuiet_nil ?_
    intro w3 hw3
    have hz3 := ExtW.out hw3
    clear hw3 q0 q1 q2 q3
    cases b1 : hasI (l.take k) l[k]
    ·
     have HK2 := Lib.hid (allTo_snoc HK.out (show freshAt l k = true by rw [HAT.out, b1]; rfl))
     try clear cf9
     try clear cf10
     have cf11 := blk2 (Ext.block (((hz1.trans hz2).trans hx).trans hz3) HB0.out.1)
     have cf12 := blk1 (Ext.block (((hz1.trans hz2).trans hx).trans hz3) HB0.out.2)
     have cf13 := Ext.cell hz3 hq
     go_wp2_with fail
     go_roundg (gk - 1)
     case measure => exact HG.out.2
     case rel => exact ⟨k + 1, HG.out.1, by go_num, HK2, (hx.trans hz3)⟩
    ·
     have HE := Lib.hid (HNO.out k hlt (by rw [HAT.out, b1]; rfl))
     try clear cf9
     try clear cf10
     have cf14 := blk2 (Ext.block (((hz1.trans hz2).trans hx).trans hz3) HB0.out.1)
     have cf15 := blk1 (Ext.block (((hz1.trans hz2).trans hx).trans hz3) HB0.out.2)
     have cf16 := Ext.cell hz3 hq
     go_wp2_with fail
     go_ret
     exact ⟨ret_bool HE.out.symm, ((((hx0.trans hz1).trans hz2).trans hx).trans hz3)⟩
   ·
    obtain rfl : k = l.length := by omega
    have HE := Lib.hid (HS.out.trans HK.out)
    try clear cf7
    try clear cf8
    have cf17 := blk2 (Ext.block ((hz1.trans hz2).trans hx) HB0.out.1)
    have cf18 := blk1 (Ext.block ((hz1.trans hz2).trans hx) HB0.out.2)
    go_wp2_with fail
    go_ret
    exact ⟨ret_bool HE.out.symm, (((hx0.trans hz1).trans hz2).trans hx)⟩
set_option maxHeartbeats 400000 in
theorem s_HopValidAt (h : Hop) (now : Int) (w : World) :
  Calls Tryz.prog 134 #[.agg #[.int .i64 h.asn, .int .i64 h.ing, .int .i64 h.eg, .int .i64 h.exp, .int .i64 h.mac], .int .i64 now] w fun e w' => e = .returned (.bool (decide (now ≤ h.exp))) ∧ Ext w w' := by
 go_enter Tryz.func134, Tryz.ntmps134

 go_wp2
 go_ret
 exact ⟨rfl, (Ext.refl _).alloc _⟩
end
end Go.Proofs.YtikbeiafobnblaaGreat
