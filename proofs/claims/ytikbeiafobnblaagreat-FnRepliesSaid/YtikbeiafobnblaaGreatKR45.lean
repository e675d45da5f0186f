/- What these laws need: FnForwards, FnReplies: Contracts of the tests of packets, program and reference. Contracts of the check of a hop and of what becomes of a packet at an AS, program and reference. -/
import Derived.Test.YtikbeiafobnblaaGreatKR25
import Derived.Test.YtikbeiafobnblaaGreatKR43
namespace Go.Proofs.YtikbeiafobnblaaGreat
section
open Go.ChangeShapes Go.WideShapes Go.ChangeAt Go.RowKit Go.Deep
set_option maxRecDepth 100000 in
set_option maxHeartbeats 2000000 in
theorem i_hopsEncodable (l : List Hop) (v : Value) (w : World) (hv : RdS Hop.rep w v l) :
  Calls Tryz.prog 297 #[v] w fun e w' => e = .returned (.bool (hopsEnc l)) ∧ Ext w w' := by
 obtain ⟨o, cap, rfl, hsm⟩ := hv.shape
 by_cases h8 : l.length ≤ 8
 ·
  have HY := Lib.hid (fun h => hopsEnc_yes (l := l) h8 h)
  have h8i : (l.length : Int) ≤ 8 := by omega
  have HN := Lib.hid (fun (k : Nat) => hopsEnc_no (l := l) (k := k))
  go_enter Tryz.func297, Tryz.ntmps297
  go_wp2
  go_loopg [10] l.length (fun gk i wr => ∃ k : Nat, gk + k = l.length ∧ i = .int .i64 k ∧ Hid ((l.take k).all validHop = true) ∧ Ext w wr)
  case atStart => exact ⟨0, rfl, rfl, Lib.hid rfl, Ext.refl _⟩
  case round =>
   obtain ⟨k, hgk, rfl, HK, hx⟩ := hrel
   by_cases hlt : k < l.length
   ·
    have HG := Lib.hid (show gk - 1 + (k + 1) = l.length ∧ gk - 1 < gk by omega); clear hgk
    obtain ⟨b, off, rfl, hc⟩ := Hop.at (hv.ext hx) k hlt
    have h4 : (k : Int) < (l.length : Int) := by omega
    have hx1 : Ext wr (wr.alloc (.cells #[.int .i64 l[k].asn, .int .i64 l[k].ing, .int .i64 l[k].eg, .int .i64 l[k].exp, .int .i64 l[k].mac] 44)) := (Ext.refl _).alloc _
    have HB1 := Lib.hid (blk_new wr (.cells #[.int .i64 l[k].asn, .int .i64 l[k].ing, .int .i64 l[k].eg, .int .i64 l[k].exp, .int .i64 l[k].mac] 44))
    have cf1 := blk5 HB1.out
    have cf2 := Hop.at_ext hx1 hc
    go_wp2_with fail
    refine (i_ValidHop l[k] _).mono ?_
    rintro e w1 ⟨rfl, hz1⟩
    cases b1 : validHop l[k]
    ·
     have HE := Lib.hid (HN.out k hlt b1)
     try clear cf1
     try clear cf2
     have cf3 := blk5 (Ext.block hz1 HB1.out)
     have cf4 := Hop.at_ext (hx1.trans hz1) hc
     go_wp2_with fail
     go_ret
     exact ⟨ret_bool HE.out.symm, ((hx.trans hx1).trans hz1)⟩
    ·
     have HK2 := Lib.hid (all_snocB hlt HK.out b1)
     try clear cf1
     try clear cf2
     have cf5 := blk5 (Ext.block hz1 HB1.out)
     have cf6 := Hop.at_ext (hx1.trans hz1) hc
     go_wp2_with fail
     go_roundg (gk - 1)
     case measure => exact HG.out.2
     case rel => exact ⟨k + 1, HG.out.1, by go_num, HK2, ((hx.trans hx1).trans hz1)⟩
   ·
    obtain rfl : k = l.length := by omega
    have HE := Lib.hid (HY.out HK.out)
    go_wp2_with fail
    go_ret
    exact ⟨ret_bool HE.out.symm, hx⟩
 ·
  have h8i : ¬ (l.length : Int) ≤ 8 := by omega
  have HE := Lib.hid (hopsEnc_len h8)
  go_enter Tryz.func297, Tryz.ntmps297
  go_wp2_with fail
  go_ret
  exact ⟨ret_bool HE.out.symm, (Ext.refl _)⟩
set_option maxRecDepth 100000 in
set_option maxHeartbeats 4000000 in
theorem i_EncodablePath (p : Pth) (v : Value) (w : World) (r : RdS Part.rep w v p.parts) :
  Calls Tryz.prog 276 #[.agg #[v]] w fun e w' => e = .returned (.bool (encPath p)) ∧ Ext w w' := by
 obtain ⟨o, cap, rfl, hsm⟩ := r.shape
 have hx0 : Ext w (w.alloc (.cells #[.slice o p.parts.length cap] 26)) := (Ext.refl _).alloc _
 have HB0 := Lib.hid (blk_new w (.cells #[.slice o p.parts.length cap] 26))
 by_cases h3 : p.parts.length ≤ 3
 ·
  have HY := Lib.hid (fun h => encPath_yes (p := p) h3 h)
  have h3i : (p.parts.length : Int) ≤ 3 := by omega
  have HN := Lib.hid (fun (k : Nat) => encPath_no (p := p) (k := k))
  go_enter Tryz.func276, Tryz.ntmps276
  have cf1 := blk1 HB0.out
  go_wp2_with fail
  go_loopg [12] p.parts.length (fun gk i wr => ∃ k : Nat, gk + k = p.parts.length ∧ i = .int .i64 k ∧ Hid ((p.parts.take k).all encPart = true) ∧ Ext (w.alloc (.cells #[.slice o p.parts.length cap] 26)) wr)
  case atStart => exact ⟨0, rfl, rfl, Lib.hid rfl, Ext.refl _⟩
  case round =>
   obtain ⟨k, hgk, rfl, HK, hx⟩ := hrel
   by_cases hlt : k < p.parts.length
   ·
    have HG := Lib.hid (show gk - 1 + (k + 1) = p.parts.length ∧ gk - 1 < gk by omega); clear hgk
    obtain ⟨b, off, oh, ch, rfl, hc, hr⟩ := Part.at (r.ext (hx0.trans hx)) k hlt
    have h4 : (k : Int) < (p.parts.length : Int) := by omega
    try clear cf1
    have cf2 := blk1 (Ext.block hx HB0.out)
    have hx1 : Ext wr (wr.alloc (.cells #[.int .i64 p.parts[k].kind, .int .i64 p.parts[k].ts, .int .i64 p.parts[k].beta, .slice oh p.parts[k].hops.length ch] 47)) := (Ext.refl _).alloc _
    have HB1 := Lib.hid (blk_new wr (.cells #[.int .i64 p.parts[k].kind, .int .i64 p.parts[k].ts, .int .i64 p.parts[k].beta, .slice oh p.parts[k].hops.length ch] 47))
    have cf3 := blk1 (Ext.block (hx.trans hx1) HB0.out)
    have cf4 := blk4 HB1.out
    have cf5 := Part.at_ext hx1 hc
    go_wp2_with fail
    refine (i_InRange _ _ _ _).mono ?_
    rintro e _ ⟨rfl, rfl⟩
    cases b1 : inR p.parts[k].kind 1 4
    ·
     have HE := Lib.hid (HN.out k hlt (show encPart p.parts[k] = false by unfold encPart; rw [b1]; rfl))
     go_wp2_with fail
     go_ret
     exact ⟨ret_bool HE.out.symm, ((hx0.trans hx).trans hx1)⟩
    ·
     go_wp2_with fail
     refine (i_InRange _ _ _ _).mono ?_
     rintro e _ ⟨rfl, rfl⟩
     cases b2 : inR p.parts[k].ts 0 1000000
     ·
      have HE := Lib.hid (HN.out k hlt (show encPart p.parts[k] = false by unfold encPart; rw [b2]; simp))
      go_wp2_with fail
      go_ret
      exact ⟨ret_bool HE.out.symm, ((hx0.trans hx).trans hx1)⟩
     ·
      go_wp2_with fail
      refine (i_isResidue _ _).mono ?_
      rintro e _ ⟨rfl, rfl⟩
      cases b3 : isRes p.parts[k].beta
      ·
       have HE := Lib.hid (HN.out k hlt (show encPart p.parts[k] = false by unfold encPart; rw [b3]; simp))
       go_wp2_with fail
       go_ret
       exact ⟨ret_bool HE.out.symm, ((hx0.trans hx).trans hx1)⟩
      ·
       go_wp2_with fail
       refine (i_hopsEncodable p.parts[k].hops _ _ (hr.ext hx1)).mono ?_
       rintro e w4 ⟨rfl, hz4⟩
       cases b4 : hopsEnc p.parts[k].hops
       ·
        have HE := Lib.hid (HN.out k hlt (show encPart p.parts[k] = false by unfold encPart; rw [b4]; simp))
        try clear cf3
        try clear cf4
        try clear cf5
        have cf6 := blk1 (Ext.block ((hx.trans hx1).trans hz4) HB0.out)
        have cf7 := blk4 (Ext.block hz4 HB1.out)
        have cf8 := Part.at_ext (hx1.trans hz4) hc
        go_wp2_with fail
        go_ret
        exact ⟨ret_bool HE.out.symm, (((hx0.trans hx).trans hx1).trans hz4)⟩
       ·
        have HK2 := Lib.hid (all_snocB hlt HK.out (show encPart p.parts[k] = true by unfold encPart; rw [b1, b2, b3, b4]; rfl))
        try clear cf3
        try clear cf4
        try clear cf5
        have cf9 := blk1 (Ext.block ((hx.trans hx1).trans hz4) HB0.out)
        have cf10 := blk4 (Ext.block hz4 HB1.out)
        have cf11 := Part.at_ext (hx1.trans hz4) hc
        go_wp2_with fail
        go_roundg (gk - 1)
        case measure => exact HG.out.2
        case rel => exact ⟨k + 1, HG.out.1, by go_num, HK2, ((hx.trans hx1).trans hz4)⟩
   ·
    obtain rfl : k = p.parts.length := by omega
    have HE := Lib.hid (HY.out HK.out)
    try clear cf1
    have cf12 := blk1 (Ext.block hx HB0.out)
    go_wp2_with fail
    go_ret
    exact ⟨ret_bool HE.out.symm, (hx0.trans hx)⟩
 ·
  have h3i : ¬ (p.parts.length : Int) ≤ 3 := by omega
  have HE := Lib.hid (encPath_len h3)
  go_enter Tryz.func276, Tryz.ntmps276
  have cf13 := blk1 HB0.out
  go_wp2_with fail
  go_ret
  exact ⟨ret_bool HE.out.symm, hx0⟩
set_option maxRecDepth 100000 in
set_option maxHeartbeats 16000000 in
theorem i_ValidPacket (x : Pkt) (v0 v1 : Value) (w : World) (r0 : RdS Part.rep w v0 x.path.parts) (r1 : RdS Rep.byte w v1 x.pay) :
  Calls Tryz.prog 244 #[.agg #[.int .i64 x.kind, .int .i64 x.src, .int .i64 x.dst, v0, .int .i64 x.pi, .int .i64 x.hi, .int .i64 x.beta, .int .i64 x.rid, .int .i64 x.seq, v1]] w fun e w' => e = .returned (.bool (validPkt x)) ∧ Ext w w' := by
 obtain ⟨o, cap, rfl, hsm⟩ := r0.shape
 obtain ⟨oy, cy, rfl, hsy⟩ := r1.shape
 have HVP := Lib.hid (validPkt_eq x)
 have hx0 : Ext w (w.alloc (.cells #[.int .i64 x.kind, .int .i64 x.src, .int .i64 x.dst, .slice o x.path.parts.length cap, .int .i64 x.pi, .int .i64 x.hi, .int .i64 x.beta, .int .i64 x.rid, .int .i64 x.seq, .slice oy x.pay.length cy] 28)) := (Ext.refl _).alloc _
 have HB0 := Lib.hid (blk_new w (.cells #[.int .i64 x.kind, .int .i64 x.src, .int .i64 x.dst, .slice o x.path.parts.length cap, .int .i64 x.pi, .int .i64 x.hi, .int .i64 x.beta, .int .i64 x.rid, .int .i64 x.seq, .slice oy x.pay.length cy] 28))
 go_enter Tryz.func244, Tryz.ntmps244
 have cf1 := blk10 HB0.out
 go_wp2_with fail
 refine (i_InRange _ _ _ _).mono ?_
 rintro e _ ⟨rfl, rfl⟩
 cases b1 : inR x.kind 1 3
 ·
  have HE := Lib.hid (show validPkt x = false by rw [HVP.out, b1]; simp)
  go_wp2_with fail
  go_ret
  exact ⟨ret_bool HE.out.symm, hx0⟩
 ·
  go_wp2_with fail
  refine (i_EncodablePath x.path _ _ (r0.ext hx0)).mono ?_
  rintro e w2 ⟨rfl, hz2⟩
  cases b2 : encPath x.path
  ·
   have HE := Lib.hid (show validPkt x = false by rw [HVP.out, b2]; simp)
   try clear cf1
   have cf2 := blk10 (Ext.block hz2 HB0.out)
   go_wp2_with fail
   go_ret
   exact ⟨ret_bool HE.out.symm, (hx0.trans hz2)⟩
  ·
   have HEC := Lib.hid (enc_curAs b2)
   by_cases b0 : x.path.parts.length = 0
   ·
    have h0 : ((x.path.parts.length : Int) == 0) = true := by rw [beq_iff_eq]; omega
    have hh : hasHop x = false := by
     cases h : hasHop x
     ·
      rfl
     ·
      have := (hasHop_parts h).1; omega
    clear b0
    have HE := Lib.hid (show validPkt x = false by rw [HVP.out, hh]; simp)
    try clear cf1
    have cf3 := blk10 (Ext.block hz2 HB0.out)
    go_wp2_with fail
    go_ret
    exact ⟨ret_bool HE.out.symm, (hx0.trans hz2)⟩
   ·
    have h0 : ((x.path.parts.length : Int) == 0) = false := by rw [beq_eq_false_iff_ne]; omega
    try clear cf1
    have cf4 := blk10 (Ext.block hz2 HB0.out)
    go_wp2_with fail
    refine (i_CurrentAS x _ _ _ (r0.ext (hx0.trans hz2))).mono ?_
    rintro e w3 ⟨rfl, hz3⟩
    by_cases b3 : curAs x < 0
    ·
     have hh : hasHop x = false := by rw [HEC.out]; exact decide_eq_false (by omega)
     have HE := Lib.hid (show validPkt x = false by rw [HVP.out, hh]; simp)
     try clear cf4
     have cf5 := blk10 (Ext.block (hz2.trans hz3) HB0.out)
     go_wp2_with fail
     go_ret
     exact ⟨ret_bool HE.out.symm, ((hx0.trans hz2).trans hz3)⟩
    ·
     have BH : Hid (hasHop x = true) := Lib.hid (by rw [HEC.out]; exact decide_eq_true (by omega))
     try clear cf4
     have cf6 := blk10 (Ext.block (hz2.trans hz3) HB0.out)
     go_wp2_with fail
     refine (i_isResidue _ _).mono ?_
     rintro e _ ⟨rfl, rfl⟩
     cases b4 : isRes x.beta
     ·
      have HE := Lib.hid (show validPkt x = false by rw [HVP.out, b4]; simp)
      go_wp2_with fail
      go_ret
      exact ⟨ret_bool HE.out.symm, ((hx0.trans hz2).trans hz3)⟩
     ·
      go_wp2_with fail
      obtain ⟨we, hwe⟩ : ∃ we : World, we = w3 := ⟨_, rfl⟩
      subst hwe
      go_loopg [37] x.path.parts.length (fun gk i wr => ∃ k : Nat, gk + k = x.path.parts.length ∧ i = .int .i64 k ∧ Hid ((x.path.parts.take k).all (fun y => decide (0 < y.hops.length)) = true) ∧ Ext we wr)
      case atStart => exact ⟨0, rfl, rfl, Lib.hid rfl, Ext.refl _⟩
      case round =>
       obtain ⟨k, hgk, rfl, HK, hx⟩ := hrel
       by_cases hlt : k < x.path.parts.length
       ·
        have HG := Lib.hid (show gk - 1 + (k + 1) = x.path.parts.length ∧ gk - 1 < gk by omega); clear hgk
        obtain ⟨b, off, oh, ch, rfl, hc, hr⟩ := Part.at (r0.ext (((hx0.trans hz2).trans hz3).trans hx)) k hlt
        have h4 : (k : Int) < (x.path.parts.length : Int) := by omega
        try clear cf6
        have cf7 := blk10 (Ext.block ((hz2.trans hz3).trans hx) HB0.out)
        have hx1 : Ext wr (wr.alloc (.cells #[.int .i64 x.path.parts[k].kind, .int .i64 x.path.parts[k].ts, .int .i64 x.path.parts[k].beta, .slice oh x.path.parts[k].hops.length ch] 47)) := (Ext.refl _).alloc _
        have HB1 := Lib.hid (blk_new wr (.cells #[.int .i64 x.path.parts[k].kind, .int .i64 x.path.parts[k].ts, .int .i64 x.path.parts[k].beta, .slice oh x.path.parts[k].hops.length ch] 47))
        by_cases h5 : 0 < x.path.parts[k].hops.length
        ·
         have h6 : ((x.path.parts[k].hops.length : Int) == 0) = false := by rw [beq_eq_false_iff_ne]; omega
         have HK2 := Lib.hid (all_snocB hlt HK.out (decide_eq_true h5))
         have cf8 := blk10 (Ext.block (((hz2.trans hz3).trans hx).trans hx1) HB0.out)
         have cf9 := blk4 HB1.out
         have cf10 := Part.at_ext hx1 hc
         go_wp2_with fail
         go_roundg (gk - 1)
         case measure => exact HG.out.2
         case rel => exact ⟨k + 1, HG.out.1, by go_num, HK2, (hx.trans hx1)⟩
        ·
         have h6 : ((x.path.parts[k].hops.length : Int) == 0) = true := by rw [beq_iff_eq]; omega
         have HE := Lib.hid (show validPkt x = false by rw [HVP.out, partsFull_no hlt h5]; simp)
         have cf11 := blk10 (Ext.block (((hz2.trans hz3).trans hx).trans hx1) HB0.out)
         have cf12 := blk4 HB1.out
         have cf13 := Part.at_ext hx1 hc
         go_wp2_with fail
         go_ret
         exact ⟨ret_bool HE.out.symm, ((((hx0.trans hz2).trans hz3).trans hx).trans hx1)⟩
       ·
        obtain rfl : k = x.path.parts.length := by omega
        have HPF : Hid (partsFull x.path.parts = true) := by have h := HK.out; rw [List.take_length] at h; exact Lib.hid h
        have HT := Lib.hid (show validPkt x = pktTail x by rw [HVP.out, b1, b2, BH.out, b4, HPF.out]; rfl)
        have HPT := Lib.hid (show pktTail x = (inR x.src 0 7 && inR x.dst 0 7 && inR x.rid 0 100000 && inR x.seq 0 100000 && decide (x.pay.length ≤ 40)) from rfl)
        try clear cf6
        have cf14 := blk10 (Ext.block ((hz2.trans hz3).trans hx) HB0.out)
        go_wp2_with fail
        refine (i_InRange _ _ _ _).mono ?_
        rintro e _ ⟨rfl, rfl⟩
        cases c1 : inR x.src 0 7
        ·
         have HE := Lib.hid (show validPkt x = false by rw [HT.out, HPT.out]; simp [c1])
         go_wp2_with fail
         go_ret
         exact ⟨ret_bool HE.out.symm, (((hx0.trans hz2).trans hz3).trans hx)⟩
        ·
         go_wp2_with fail
         refine (i_InRange _ _ _ _).mono ?_
         rintro e _ ⟨rfl, rfl⟩
         cases c2 : inR x.dst 0 7
         ·
          have HE := Lib.hid (show validPkt x = false by rw [HT.out, HPT.out]; simp [c2])
          go_wp2_with fail
          go_ret
          exact ⟨ret_bool HE.out.symm, (((hx0.trans hz2).trans hz3).trans hx)⟩
         ·
          go_wp2_with fail
          refine (i_InRange _ _ _ _).mono ?_
          rintro e _ ⟨rfl, rfl⟩
          cases c3 : inR x.rid 0 100000
          ·
           have HE := Lib.hid (show validPkt x = false by rw [HT.out, HPT.out]; simp [c3])
           go_wp2_with fail
           go_ret
           exact ⟨ret_bool HE.out.symm, (((hx0.trans hz2).trans hz3).trans hx)⟩
          ·
           go_wp2_with fail
           refine (i_InRange _ _ _ _).mono ?_
           rintro e _ ⟨rfl, rfl⟩
           cases c4 : inR x.seq 0 100000
           ·
            have HE := Lib.hid (show validPkt x = false by rw [HT.out, HPT.out]; simp [c4])
            go_wp2_with fail
            go_ret
            exact ⟨ret_bool HE.out.symm, (((hx0.trans hz2).trans hz3).trans hx)⟩
           ·
            by_cases c5 : x.pay.length ≤ 40
            ·
             have c6 : (x.pay.length : Int) ≤ 40 := by omega
             have HE := Lib.hid (show validPkt x = true by rw [HT.out, HPT.out, c1, c2, c3, c4, decide_eq_true c5]; rfl)
             go_wp2_with fail
             go_ret
             exact ⟨ret_bool (by rw [HE.out]), (((hx0.trans hz2).trans hz3).trans hx)⟩
            ·
             have c6 : ¬ (x.pay.length : Int) ≤ 40 := by omega
             have HE := Lib.hid (show validPkt x = false by rw [HT.out, HPT.out, decide_eq_false c5]; simp)
             go_wp2_with fail
             go_ret
             exact ⟨ret_bool (by rw [HE.out]; first | exact decide_eq_false c6 | (simp; omega)), (((hx0.trans hz2).trans hz3).trans hx)⟩
end
section
open Go.ChangeShapes Go.WideShapes Go.ChangeAt Go.RowKit Go.Deep
/-- What the program's check gives: the packet at the hop's end, or as it was. -/
def chkP (t : Topo) (now : Int) (x : Pkt) : Pkt := if chkCode t now x = 0 then verCur t x else x
theorem chkP_0 {t : Topo} {now : Int} {x : Pkt} (h : chkCode t now x = 0) : chkP t now x = verCur t x := if_pos h
theorem chkP_n {t : Topo} {now : Int} {x : Pkt} (h : ¬ chkCode t now x = 0) : chkP t now x = x := if_neg h
set_option maxRecDepth 100000 in
set_option maxHeartbeats 16000000 in
theorem i_checkHop (t : Topo) (va vk : Value) (now : Int) (x : Pkt) (v0 v1 : Value) (w : World) (ha : RdS ASd.rep w va t.ases) (hk : RdS Lnk.rep w vk t.links) (r0 : RdS Part.rep w v0 x.path.parts) (r1 : RdS Rep.byte w v1 x.pay) (hl : x.size ≤ 1048576) :
  Calls Tryz.prog 245 #[.agg #[va, vk], .int .i64 now, .agg #[.int .i64 x.kind, .int .i64 x.src, .int .i64 x.dst, v0, .int .i64 x.pi, .int .i64 x.hi, .int .i64 x.beta, .int .i64 x.rid, .int .i64 x.seq, v1]] w fun e w' => ∃ u0 u1, e = .returned (.tuple #[.agg #[.int .i64 (chkP t now x).kind, .int .i64 (chkP t now x).src, .int .i64 (chkP t now x).dst, u0, .int .i64 (chkP t now x).pi, .int .i64 (chkP t now x).hi, .int .i64 (chkP t now x).beta, .int .i64 (chkP t now x).rid, .int .i64 (chkP t now x).seq, u1], .int .i64 (chkCode t now x)]) ∧ RdS Part.rep w' u0 (chkP t now x).path.parts ∧ RdS Rep.byte w' u1 (chkP t now x).pay ∧ (chkCode t now x = 0 → Pkt.own (rng w.heap.size w'.heap.size) w' u0 u1 (chkP t now x)) ∧ Ext w w' := by
 obtain ⟨o, cap, rfl, hsm⟩ := r0.shape
 obtain ⟨oy, cy, rfl, hsy⟩ := r1.shape
 have hx0 := ext3 w (.cells #[va, vk] 33) (.cells #[.int .i64 x.kind, .int .i64 x.src, .int .i64 x.dst, .slice o x.path.parts.length cap, .int .i64 x.pi, .int .i64 x.hi, .int .i64 x.beta, .int .i64 x.rid, .int .i64 x.seq, .slice oy x.pay.length cy] 28) (.cells #[.int .i64 0, .int .i64 0, .int .i64 0, .slice none 0 0, .int .i64 0, .int .i64 0, .int .i64 0, .int .i64 0, .int .i64 0, .slice none 0 0] 28)
 have HB0 := Lib.hid (al3 w (.cells #[va, vk] 33) (.cells #[.int .i64 x.kind, .int .i64 x.src, .int .i64 x.dst, .slice o x.path.parts.length cap, .int .i64 x.pi, .int .i64 x.hi, .int .i64 x.beta, .int .i64 x.rid, .int .i64 x.seq, .slice oy x.pay.length cy] 28) (.cells #[.int .i64 0, .int .i64 0, .int .i64 0, .slice none 0 0, .int .i64 0, .int .i64 0, .int .i64 0, .int .i64 0, .int .i64 0, .slice none 0 0] 28))
 go_enter Tryz.func245, Tryz.ntmps245
 have cf1 := blk2 HB0.out.1
 have cf2 := blk10 HB0.out.2.1
 have cf3 := blk10 HB0.out.2.2
 go_wp2_with fail
 refine (i_VerifyCurrentHop t _ _ x _ _ _ (ha.ext hx0) (hk.ext hx0) (r0.ext hx0) (r1.ext hx0) hl).mono ?_
 rintro e w1 ⟨u0, u1, rfl, oo, hz1⟩
 have HZI := Lib.hid (curIn_ver t x now)
 generalize hz : verCur t x = z at *
 have HZ := Lib.hid hz; clear hz
 obtain ⟨o1, c1, rfl, _⟩ := (Pkt.own_rd0 oo).shape
 obtain ⟨o2, c2, rfl, _⟩ := (Pkt.own_rd1 oo).shape
 have hs1 : w.heap.size + 1 + 1 + 1 ≤ w1.heap.size := by simpa using hz1.size
 have OO := Lib.hid oo; clear oo
 try clear cf1
 try clear cf2
 try clear cf3
 have cf4 := blk2 (Ext.block hz1 HB0.out.1)
 have cf5 := blk10 (Ext.block hz1 HB0.out.2.1)
 have cf6 := blk10 (Ext.block hz1 HB0.out.2.2)
 have hx1 : Ext w1 (w1.alloc (.cells #[.int .i64 z.kind, .int .i64 z.src, .int .i64 z.dst, (.slice o1 z.path.parts.length c1), .int .i64 z.pi, .int .i64 z.hi, .int .i64 z.beta, .int .i64 z.rid, .int .i64 z.seq, (.slice o2 z.pay.length c2)] 28)) := (Ext.refl _).alloc _
 have HB1 := Lib.hid (blk_new w1 (.cells #[.int .i64 z.kind, .int .i64 z.src, .int .i64 z.dst, (.slice o1 z.path.parts.length c1), .int .i64 z.pi, .int .i64 z.hi, .int .i64 z.beta, .int .i64 z.rid, .int .i64 z.seq, (.slice o2 z.pay.length c2)] 28))
 cases bo : curOk t x
 ·
  have HC := Lib.hid (code_4 (now := now) bo)
  have HP := Lib.hid (chkP_n (t := t) (now := now) (x := x) (by rw [HC.out]; decide))
  have hsz := hx1.size
  have hso : w1.heap.size < (w1.alloc (.cells #[.int .i64 z.kind, .int .i64 z.src, .int .i64 z.dst, (.slice o1 z.path.parts.length c1), .int .i64 z.pi, .int .i64 z.hi, .int .i64 z.beta, .int .i64 z.rid, .int .i64 z.seq, (.slice o2 z.pay.length c2)] 28)).heap.size := blk_lt (Ext.block (Ext.refl _) HB1.out)
  have hR := Ext.block (hz1.trans hx1) HB0.out.2.2
  obtain ⟨wc, hwc, hrc, hcc, hsc⟩ := pk_set hR (.int .i64 x.kind) (.int .i64 x.src) (.int .i64 x.dst) ((.slice o x.path.parts.length cap)) (.int .i64 x.pi) (.int .i64 x.hi) (.int .i64 x.beta) (.int .i64 x.rid) (.int .i64 x.seq) ((.slice oy x.pay.length cy))
  have HXX := Lib.hid (((hx0.trans hz1).trans hx1).chg1 hcc (by omega))
  have HWC := Lib.hid hwc
  have HRC := Lib.hid hrc
  have hsz2 : (w1.alloc (.cells #[.int .i64 z.kind, .int .i64 z.src, .int .i64 z.dst, (.slice o1 z.path.parts.length c1), .int .i64 z.pi, .int .i64 z.hi, .int .i64 z.beta, .int .i64 z.rid, .int .i64 z.seq, (.slice o2 z.pay.length c2)] 28)).heap.size = wc.heap.size := by rw [hsc]
  have hRF := fun o => fr_of hR o
  have gr0 := hRF 0
  have gr1 := hRF 1
  have gr2 := hRF 2
  have gr3 := hRF 3
  have gr4 := hRF 4
  have gr5 := hRF 5
  have gr6 := hRF 6
  have gr7 := hRF 7
  have gr8 := hRF 8
  have gr9 := hRF 9
  clear hRF hR  hwc hrc hcc hsc
  have cf7 := blk2 (Ext.block (hz1.trans hx1) HB0.out.1)
  have cf8 := blk10 (Ext.block (hz1.trans hx1) HB0.out.2.1)
  have cf9 := blk10 (Ext.block (hz1.trans hx1) HB0.out.2.2)
  have cf10 := blk10 HB1.out
  go_wp2_with fail
  rw [← HWC.out]
  clear gr0 gr1 gr2 gr3 gr4 gr5 gr6 gr7 gr8 gr9 cf7 cf8 cf9 cf10
  have cc := blk10 HRC.out
  refine bodyPost_ret (v := .tuple #[.agg #[.int .i64 x.kind, .int .i64 x.src, .int .i64 x.dst, (.slice o x.path.parts.length cap), .int .i64 x.pi, .int .i64 x.hi, .int .i64 x.beta, .int .i64 x.rid, .int .i64 x.seq, (.slice oy x.pay.length cy)], .int .i64 4]) (by simp [results, Tryz.results245, go_sem, cc]) rfl ?_
  rw [HP.out, HC.out]
  exact ⟨_, _, rfl, r0.ext HXX.out, r1.ext HXX.out, fun h => absurd h (by decide), HXX.out⟩
 ·
  have cf11 := blk2 (Ext.block (hz1.trans hx1) HB0.out.1)
  have cf12 := blk10 (Ext.block (hz1.trans hx1) HB0.out.2.1)
  have cf13 := blk10 (Ext.block (hz1.trans hx1) HB0.out.2.2)
  have cf14 := blk10 HB1.out
  go_wp2_with fail
  refine (i_CurrentHopValid z _ _ now _ (Pkt.own_rd0 (Pkt.own_ext OO.out hx1))).mono ?_
  rintro e w2 ⟨rfl, hz2⟩
  rw [HZI.out]
  cases bi : curIn x now
  ·
   have HC := Lib.hid (code_5 bo bi)
   have HP := Lib.hid (chkP_n (t := t) (now := now) (x := x) (by rw [HC.out]; decide))
   have hsz := (hx1.trans hz2).size
   have hso : w1.heap.size < w2.heap.size := blk_lt (Ext.block hz2 HB1.out)
   have hR := Ext.block ((hz1.trans hx1).trans hz2) HB0.out.2.2
   obtain ⟨wc, hwc, hrc, hcc, hsc⟩ := pk_set hR (.int .i64 x.kind) (.int .i64 x.src) (.int .i64 x.dst) ((.slice o x.path.parts.length cap)) (.int .i64 x.pi) (.int .i64 x.hi) (.int .i64 x.beta) (.int .i64 x.rid) (.int .i64 x.seq) ((.slice oy x.pay.length cy))
   have HXX := Lib.hid ((((hx0.trans hz1).trans hx1).trans hz2).chg1 hcc (by omega))
   have HWC := Lib.hid hwc
   have HRC := Lib.hid hrc
   have hsz2 : w2.heap.size = wc.heap.size := by rw [hsc]
   have hRF := fun o => fr_of hR o
   have gr0 := hRF 0
   have gr1 := hRF 1
   have gr2 := hRF 2
   have gr3 := hRF 3
   have gr4 := hRF 4
   have gr5 := hRF 5
   have gr6 := hRF 6
   have gr7 := hRF 7
   have gr8 := hRF 8
   have gr9 := hRF 9
   clear hRF hR  hwc hrc hcc hsc
   try clear cf11
   try clear cf12
   try clear cf13
   try clear cf14
   have cf15 := blk2 (Ext.block ((hz1.trans hx1).trans hz2) HB0.out.1)
   have cf16 := blk10 (Ext.block ((hz1.trans hx1).trans hz2) HB0.out.2.1)
   have cf17 := blk10 (Ext.block ((hz1.trans hx1).trans hz2) HB0.out.2.2)
   have cf18 := blk10 (Ext.block hz2 HB1.out)
   go_wp2_with fail
   rw [← HWC.out]
   clear gr0 gr1 gr2 gr3 gr4 gr5 gr6 gr7 gr8 gr9 cf15 cf16 cf17 cf18
   have cc := blk10 HRC.out
   refine bodyPost_ret (v := .tuple #[.agg #[.int .i64 x.kind, .int .i64 x.src, .int .i64 x.dst, (.slice o x.path.parts.length cap), .int .i64 x.pi, .int .i64 x.hi, .int .i64 x.beta, .int .i64 x.rid, .int .i64 x.seq, (.slice oy x.pay.length cy)], .int .i64 5]) (by simp [results, Tryz.results245, go_sem, cc]) rfl ?_
   rw [HP.out, HC.out]
   exact ⟨_, _, rfl, r0.ext HXX.out, r1.ext HXX.out, fun h => absurd h (by decide), HXX.out⟩
  ·
   have HC := Lib.hid (code_0 bo bi)
   have HP := Lib.hid ((chkP_0 HC.out).trans HZ.out)
   have hsz := (hx1.trans hz2).size
   have hso : w1.heap.size < w2.heap.size := blk_lt (Ext.block hz2 HB1.out)
   have hR := Ext.block ((hz1.trans hx1).trans hz2) HB0.out.2.2
   have hO := Ext.block hz2 HB1.out
   obtain ⟨wc, hwc, hrc, hcc, hsc⟩ := pk_set hR (.int .i64 z.kind) (.int .i64 z.src) (.int .i64 z.dst) ((.slice o1 z.path.parts.length c1)) (.int .i64 z.pi) (.int .i64 z.hi) (.int .i64 z.beta) (.int .i64 z.rid) (.int .i64 z.seq) ((.slice o2 z.pay.length c2))
   have HOW := Lib.hid (Pkt.own_kept (Pkt.own_ext OO.out (hx1.trans hz2)) hcc (fun b hb e => by have h1 := hb.1; have h2 := hb.2; simp at h1; omega))
   have HXX := Lib.hid ((((hx0.trans hz1).trans hx1).trans hz2).chg1 hcc (by omega))
   have HWC := Lib.hid hwc
   have HRC := Lib.hid hrc
   have hsz2 : w2.heap.size = wc.heap.size := by rw [hsc]
   have hRF := fun o => fr_of hR o
   have gr0 := hRF 0
   have gr1 := hRF 1
   have gr2 := hRF 2
   have gr3 := hRF 3
   have gr4 := hRF 4
   have gr5 := hRF 5
   have gr6 := hRF 6
   have gr7 := hRF 7
   have gr8 := hRF 8
   have gr9 := hRF 9
   clear hRF hR hO  hwc hrc hcc hsc
   try clear cf11
   try clear cf12
   try clear cf13
   try clear cf14
   have cf19 := blk2 (Ext.block ((hz1.trans hx1).trans hz2) HB0.out.1)
   have cf20 := blk10 (Ext.block ((hz1.trans hx1).trans hz2) HB0.out.2.1)
   have cf21 := blk10 (Ext.block ((hz1.trans hx1).trans hz2) HB0.out.2.2)
   have cf22 := blk10 (Ext.block hz2 HB1.out)
   go_wp2_with fail
   rw [← HWC.out]
   clear gr0 gr1 gr2 gr3 gr4 gr5 gr6 gr7 gr8 gr9 cf19 cf20 cf21 cf22
   have cc := blk10 HRC.out
   refine bodyPost_ret (v := .tuple #[.agg #[.int .i64 z.kind, .int .i64 z.src, .int .i64 z.dst, (.slice o1 z.path.parts.length c1), .int .i64 z.pi, .int .i64 z.hi, .int .i64 z.beta, .int .i64 z.rid, .int .i64 z.seq, (.slice o2 z.pay.length c2)], .int .i64 0]) (by simp [results, Tryz.results245, go_sem, cc]) rfl ?_
   rw [HP.out, HC.out]
   exact ⟨_, _, rfl, Pkt.own_rd0 HOW.out, Pkt.own_rd1 HOW.out, fun _ => Pkt.own_mono HOW.out (fun b hb => ⟨by have h1 := hb.1; simp at h1; omega, by have h2 := hb.2; omega⟩), HXX.out⟩
set_option maxRecDepth 100000 in
set_option maxHeartbeats 16000000 in
theorem i_decide1 (code : Int) (x : Pkt) (v0 v1 : Value) (g : Nat) (w : World) (hg : w.heap[g]? = some (.cells #[.int .i64 x.kind, .int .i64 x.src, .int .i64 x.dst, v0, .int .i64 x.pi, .int .i64 x.hi, .int .i64 x.beta, .int .i64 x.rid, .int .i64 x.seq, v1] 28)) (r0 : RdS Part.rep w v0 x.path.parts) (r1 : RdS Rep.byte w v1 x.pay) (hl : x.size ≤ 1048576) :
  Calls Tryz.prog 243 #[.int .i64 code, .pointer (some ⟨g, 0, none⟩)] w fun e w' => ∃ u0 u1, e = .returned (.agg #[.int .i64 code, .int .i64 0, .int .i64 x.kind, .int .i64 x.src, .int .i64 x.dst, u0, .int .i64 x.pi, .int .i64 x.hi, .int .i64 x.beta, .int .i64 x.rid, .int .i64 x.seq, u1]) ∧ Pkt.own (rng w.heap.size w'.heap.size) w' u0 u1 x ∧ Ext w w' := by
 have HG := Lib.hid hg; clear hg
 have hx0 : Ext w (w.alloc (.cells #[.int .i64 0, .int .i64 0, .int .i64 0, .int .i64 0, .int .i64 0, .slice none 0 0, .int .i64 0, .int .i64 0, .int .i64 0, .int .i64 0, .int .i64 0, .slice none 0 0] 111)) := (Ext.refl _).alloc _
 have HB0 := Lib.hid (blk_new w (.cells #[.int .i64 0, .int .i64 0, .int .i64 0, .int .i64 0, .int .i64 0, .slice none 0 0, .int .i64 0, .int .i64 0, .int .i64 0, .int .i64 0, .int .i64 0, .slice none 0 0] 111))
 go_enter Tryz.func243, Tryz.ntmps243
 have cf1 := blk12 HB0.out
 have cf2 := blk10 (Ext.block hx0 HG.out)
 go_wp2_with fail
 refine (i_copyPacket x _ _ _ (r0.ext hx0) (r1.ext hx0) hl).mono ?_
 rintro e w1 ⟨u0, u1, rfl, oo, hz1⟩
 obtain ⟨o1, c1, rfl, _⟩ := (Pkt.own_rd0 oo).shape
 obtain ⟨o2, c2, rfl, _⟩ := (Pkt.own_rd1 oo).shape
 have hs1 : w.heap.size + 1 ≤ w1.heap.size := by simpa using hz1.size
 have hR := Ext.block hz1 HB0.out
 obtain ⟨wc, hwc, hrc, hcc, hsc⟩ := vd_set hR (.int .i64 code) (.int .i64 0) (.int .i64 x.kind) (.int .i64 x.src) (.int .i64 x.dst) ((.slice o1 x.path.parts.length c1)) (.int .i64 x.pi) (.int .i64 x.hi) (.int .i64 x.beta) (.int .i64 x.rid) (.int .i64 x.seq) ((.slice o2 x.pay.length c2))
 have HOW := Lib.hid (Pkt.own_kept oo hcc (fun b hb e => by have h1 := hb.1; have h2 := hb.2; simp at h1; omega))
 have HXX := Lib.hid ((hx0.trans hz1).chg1 hcc (by omega))
 have HWC := Lib.hid hwc
 have HRC := Lib.hid hrc
 have hsz2 : w1.heap.size = wc.heap.size := by rw [hsc]
 have hRF := fun o => fr_of hR o
 have gr0 := hRF 0
 have gr1 := hRF 1
 have gr2 := hRF 2
 have gr3 := hRF 3
 have gr4 := hRF 4
 have gr5 := hRF 5
 have gr6 := hRF 6
 have gr7 := hRF 7
 have gr8 := hRF 8
 have gr9 := hRF 9
 have gr10 := hRF 10
 have gr11 := hRF 11
 clear hRF hR  hwc hrc hcc hsc
 clear oo
 try clear cf1
 try clear cf2
 have cf3 := blk12 (Ext.block hz1 HB0.out)
 have cf4 := blk10 (Ext.block (hx0.trans hz1) HG.out)
 go_wp2_with fail
 rw [← HWC.out]
 clear gr0 gr1 gr2 gr3 gr4 gr5 gr6 gr7 gr8 gr9 gr10 gr11 cf3 cf4
 have cc := blk12 HRC.out
 refine bodyPost_ret (v := .agg #[.int .i64 code, .int .i64 0, .int .i64 x.kind, .int .i64 x.src, .int .i64 x.dst, (.slice o1 x.path.parts.length c1), .int .i64 x.pi, .int .i64 x.hi, .int .i64 x.beta, .int .i64 x.rid, .int .i64 x.seq, (.slice o2 x.pay.length c2)]) (by simp [results, Tryz.results243, go_sem, cc]) rfl ?_
 exact ⟨_, _, rfl, Pkt.own_mono HOW.out (fun b hb => ⟨by have h1 := hb.1; simp at h1; omega, by have h2 := hb.2; omega⟩), HXX.out⟩
end
end Go.Proofs.YtikbeiafobnblaaGreat
