/- What these laws need: FnForwards: Contracts of the tests of packets, program and reference. -/
import Derived.Test.YtcpfmhgfaliemaaGreatKF15
namespace Go.Proofs.YtcpfmhgfaliemaaGreat
section
open Go.ChangeShapes Go.WideShapes Go.ChangeAt Go.RowKit Go.Deep
theorem hopsEnc_len {l : List Hop} (h : ¬ l.length ≤ 8) : hopsEnc l = false := by unfold hopsEnc; rw [decide_eq_false h]; rfl
theorem hopsEnc_no {l : List Hop} {k : Nat} (hk : k < l.length) (h : validHop l[k] = false) : hopsEnc l = false := by
 unfold hopsEnc; rw [show l.all validHop = false from List.all_eq_false.2 ⟨l[k], List.getElem_mem _, by rw [h]; decide⟩]; simp
theorem hopsEnc_yes {l : List Hop} (h : l.length ≤ 8) (h2 : (l.take l.length).all validHop = true) : hopsEnc l = true := by
 unfold hopsEnc; rw [List.take_length] at h2; rw [h2, decide_eq_true h]; rfl
theorem all_snocB {α : Type} {p : α → Bool} {l : List α} {k : Nat} (hk : k < l.length) (h : (l.take k).all p = true) (h2 : p l[k] = true) : (l.take (k + 1)).all p = true := by
 rw [List.take_succ_eq_append_getElem hk, List.all_append, h]; simp [h2]
theorem encPath_len {p : Pth} (h : ¬ p.parts.length ≤ 3) : encPath p = false := by unfold encPath; rw [decide_eq_false h]; rfl
theorem encPath_no {p : Pth} {k : Nat} (hk : k < p.parts.length) (h : encPart p.parts[k] = false) : encPath p = false := by
 unfold encPath; rw [show p.parts.all encPart = false from List.all_eq_false.2 ⟨p.parts[k], List.getElem_mem _, by rw [h]; decide⟩]; simp
theorem encPath_yes {p : Pth} (h : p.parts.length ≤ 3) (h2 : (p.parts.take p.parts.length).all encPart = true) : encPath p = true := by
 unfold encPath; rw [List.take_length] at h2; rw [h2, decide_eq_true h]; rfl
def pktTail (x : Pkt) : Bool := inR x.src 0 7 && inR x.dst 0 7 && inR x.rid 0 100000 && inR x.seq 0 100000 && decide (x.pay.length ≤ 40)
def partsFull (l : List Part) : Bool := l.all (fun y => decide (0 < y.hops.length))
theorem validPkt_eq (x : Pkt) : validPkt x = (inR x.kind 1 3 && encPath x.path && hasHop x && isRes x.beta && partsFull x.path.parts && pktTail x) := by
 unfold validPkt partsFull pktTail; simp only [Bool.and_assoc]
theorem enc_curAs {x : Pkt} (he : encPath x.path = true) : hasHop x = decide (0 ≤ curAs x) := by
 cases hh : hasHop x
 ·
  have : curAs x = -1 := by unfold curAs; rw [hh]; rfl
  rw [this]; rfl
 ·
  have e1 : curAs x = (curHop x).asn := by unfold curAs; rw [hh]; rfl
  obtain ⟨⟨p0, p1, p2⟩, q0, q1, q2⟩ := hasHop_parts hh
  have h1 : encPart (curPart x) = true := by
   unfold encPath at he; simp only [Bool.and_eq_true, List.all_eq_true] at he; rw [curPart_at p2]; exact he.2 _ (List.getElem_mem _)
  have h2 : validHop (curHop x) = true := by
   unfold encPart hopsEnc at h1; simp only [Bool.and_eq_true, List.all_eq_true] at h1; rw [curHop_at q2]; exact h1.2.2 _ (List.getElem_mem _)
  unfold validHop at h2; simp only [Bool.and_eq_true] at h2; have := inR_true.1 h2.1.1.1.1.1; rw [e1, decide_eq_true (by omega)]
theorem partsFull_no {l : List Part} {k : Nat} (hk : k < l.length) (h : ¬ 0 < l[k].hops.length) : partsFull l = false := List.all_eq_false.2 ⟨l[k], List.getElem_mem _, by rw [decide_eq_false h]; decide⟩
set_option maxRecDepth 100000 in
set_option maxHeartbeats 2000000 in
theorem i_hopsEncodable (l : List Hop) (v : Value) (w : World) (hv : RdS Hop.rep w v l) :
  Calls Tryz.prog 250 #[v] w fun e w' => e = .returned (.bool (hopsEnc l)) ∧ Ext w w' := by
 obtain ⟨o, cap, rfl, hsm⟩ := hv.shape
 by_cases h8 : l.length ≤ 8
 ·
  have HY := Lib.hid (fun h => hopsEnc_yes (l := l) h8 h); have h8i : (l.length : Int) ≤ 8 := by omega
  have HN := Lib.hid (fun (k : Nat) => hopsEnc_no (l := l) (k := k))
  go_enter Tryz.func250, Tryz.ntmps250
  go_wp2
  go_loopg [10] l.length (fun gk i wr => ∃ k : Nat, gk + k = l.length ∧ i = .int .i64 k ∧ Hid ((l.take k).all validHop = true) ∧ Ext w wr)
  case atStart => exact ⟨0, rfl, rfl, Lib.hid rfl, Ext.refl _⟩
  case round =>
   obtain ⟨k, hgk, rfl, HK, hx⟩ := hrel
   by_cases hlt : k < l.length
   ·
    have HG := Lib.hid (show gk - 1 + (k + 1) = l.length ∧ gk - 1 < gk by omega); clear hgk; obtain ⟨b, off, rfl, hc⟩ := Hop.at (hv.ext hx) k hlt; have h4 : (k : Int) < (l.length : Int) := by omega
    have hx1 : Ext wr (wr.alloc (.cells #[.int .i64 l[k].asn, .int .i64 l[k].ing, .int .i64 l[k].eg, .int .i64 l[k].exp, .int .i64 l[k].mac] 71)) := (Ext.refl _).alloc _; have HB1 := Lib.hid (blk_new wr (.cells #[.int .i64 l[k].asn, .int .i64 l[k].ing, .int .i64 l[k].eg, .int .i64 l[k].exp, .int .i64 l[k].mac] 71)); have cf1 := blk5 HB1.out; have cf2 := Hop.at_ext hx1 hc
    go_wp2_with fail
    refine (i_ValidHop l[k] _).mono ?_; rintro e w1 ⟨rfl, hz1⟩
    cases b1 : validHop l[k]
    ·
     have HE := Lib.hid (HN.out k hlt b1)
     try clear cf1
     try clear cf2
     have cf3 := blk5 (Ext.block hz1 HB1.out); have cf4 := Hop.at_ext (hx1.t hz1) hc
     go_wp2_with fail
     go_ret
     exact ⟨ret_bool HE.out.symm, ((hx.t hx1).t hz1)⟩
    ·
     have HK2 := Lib.hid (all_snocB hlt HK.out b1)
     try clear cf1
     try clear cf2
     have cf5 := blk5 (Ext.block hz1 HB1.out); have cf6 := Hop.at_ext (hx1.t hz1) hc
     go_wp2_with fail
     go_roundg (gk - 1)
     case measure => exact HG.out.2
     case rel => exact ⟨k + 1, HG.out.1, by go_num, HK2, ((hx.t hx1).t hz1)⟩
   ·
    obtain rfl : k = l.length := by omega
    have HE := Lib.hid (HY.out HK.out)
    go_wp2_with fail
    go_ret
    exact ⟨ret_bool HE.out.symm, hx⟩
 ·
  have h8i : ¬ (l.length : Int) ≤ 8 := by omega
  have HE := Lib.hid (hopsEnc_len h8)
  go_enter Tryz.func250, Tryz.ntmps250
  go_wp2_with fail
  go_ret
  exact ⟨ret_bool HE.out.symm, (Ext.refl _)⟩
set_option maxRecDepth 100000 in
set_option maxHeartbeats 2000000 in
theorem s_Encodable (ts beta : Int) (l : List Hop) (v : Value) (w : World) (hv : RdS Hop.rep w v l) :
  Calls Tryz.prog 223 #[.agg #[.int .i64 ts, .int .i64 beta, v]] w fun e w' => e = .returned (.bool (inR ts 0 1000000 && isRes beta && hopsEnc l)) ∧ Ext w w' := by
 obtain ⟨o, cap, rfl, hsm⟩ := hv.shape; have hx0 : Ext w (w.alloc (.cells #[.int .i64 ts, .int .i64 beta, .slice o l.length cap] 203)) := (Ext.refl _).alloc _; have HB0 := Lib.hid (blk_new w (.cells #[.int .i64 ts, .int .i64 beta, .slice o l.length cap] 203))
 go_enter Tryz.func223, Tryz.ntmps223
 have cf1 := blk3 HB0.out
 go_wp2_with fail
 refine (s_l1In _ _ _ _).mono ?_; rintro e _ ⟨rfl, rfl⟩
 cases bb : inR ts 0 1000000
 ·
  have HE := Lib.hid (show (inR ts 0 1000000 && isRes beta && hopsEnc l) = false by rw [bb]; rfl)
  go_wp2_with fail
  go_ret
  exact ⟨ret_bool HE.out.symm, hx0⟩
 ·
  have B1 := Lib.hid bb; clear bb
  go_wp2_with fail
  refine (s_l3Ok _ _).mono ?_; rintro e _ ⟨rfl, rfl⟩
  cases bb : isRes beta
  ·
   have HE := Lib.hid (show (inR ts 0 1000000 && isRes beta && hopsEnc l) = false by rw [bb]; simp)
   go_wp2_with fail
   go_ret
   exact ⟨ret_bool HE.out.symm, hx0⟩
  ·
   have B2 := Lib.hid bb; clear bb
   by_cases h8 : l.length ≤ 8
   ·
    have h8q : (l.length : Int) ≤ 8 := by omega
    go_wp2_with fail
    have HY := Lib.hid (fun h => hopsEnc_yes (l := l) h8 h); have h8i : (l.length : Int) ≤ 8 := by omega
    have HN := Lib.hid (fun (k : Nat) => hopsEnc_no (l := l) (k := k))
    go_loopg [3] l.length (fun gk i wr => ∃ k : Nat, gk + k = l.length ∧ i = .int .i64 k ∧ Hid ((l.take k).all validHop = true) ∧ Ext (w.alloc (.cells #[.int .i64 ts, .int .i64 beta, .slice o l.length cap] 203)) wr)
    case atStart => exact ⟨0, rfl, rfl, Lib.hid rfl, Ext.refl _⟩
    case round =>
     obtain ⟨k, hgk, rfl, HK, hx⟩ := hrel
     by_cases hlt : k < l.length
     ·
      have HG := Lib.hid (show gk - 1 + (k + 1) = l.length ∧ gk - 1 < gk by omega); clear hgk; obtain ⟨b, off, rfl, hc⟩ := Hop.at (hv.ext (hx0.t hx)) k hlt; have h4 : (k : Int) < (l.length : Int) := by omega
      try clear cf1
      have cf2 := blk3 (Ext.block hx HB0.out)
      go_wp2_with fail
      refine (s_ValidHop l[k] _).mono ?_; rintro e w3 ⟨rfl, hz3⟩
      cases b1 : validHop l[k]
      ·
       have HE := Lib.hid (show (inR ts 0 1000000 && isRes beta && hopsEnc l) = false by rw [HN.out k hlt b1]; simp)
       try clear cf2
       have cf3 := blk3 (Ext.block (hx.t hz3) HB0.out); have cf4 := Hop.at_ext hz3 hc
       go_wp2_with fail
       go_ret
       exact ⟨ret_bool HE.out.symm, ((hx0.t hx).t hz3)⟩
      ·
       have HK2 := Lib.hid (all_snocB hlt HK.out b1)
       try clear cf2
       have cf5 := blk3 (Ext.block (hx.t hz3) HB0.out); have cf6 := Hop.at_ext hz3 hc
       go_wp2_with fail
       go_roundg (gk - 1)
       case measure => exact HG.out.2
       case rel => exact ⟨k + 1, HG.out.1, by go_num, HK2, (hx.t hz3)⟩
     ·
      obtain rfl : k = l.length := by omega
      have HE := Lib.hid (show (inR ts 0 1000000 && isRes beta && hopsEnc l) = true by rw [HY.out HK.out, B1.out, B2.out]; rfl)
      try clear cf1
      have cf7 := blk3 (Ext.block hx HB0.out)
      go_wp2_with fail
      go_ret
      exact ⟨ret_bool HE.out.symm, (hx0.t hx)⟩
   ·
    have h8i : ¬ (l.length : Int) ≤ 8 := by omega
    have HE := Lib.hid (show (inR ts 0 1000000 && isRes beta && hopsEnc l) = false by rw [hopsEnc_len h8]; simp)
    go_wp2_with fail
    go_ret
    exact ⟨ret_bool HE.out.symm, hx0⟩
set_option maxRecDepth 100000 in
set_option maxHeartbeats 4000000 in
theorem i_EncodablePath (p : Pth) (v : Value) (w : World) (r : RdS Part.rep w v p.parts) :
  Calls Tryz.prog 222 #[.agg #[v]] w fun e w' => e = .returned (.bool (encPath p)) ∧ Ext w w' := by
 obtain ⟨o, cap, rfl, hsm⟩ := r.shape; have hx0 : Ext w (w.alloc (.cells #[.slice o p.parts.length cap] 35)) := (Ext.refl _).alloc _; have HB0 := Lib.hid (blk_new w (.cells #[.slice o p.parts.length cap] 35))
 by_cases h3 : p.parts.length ≤ 3
 ·
  have HY := Lib.hid (fun h => encPath_yes (p := p) h3 h); have h3i : (p.parts.length : Int) ≤ 3 := by omega
  have HN := Lib.hid (fun (k : Nat) => encPath_no (p := p) (k := k))
  go_enter Tryz.func222, Tryz.ntmps222
  have cf1 := blk1 HB0.out
  go_wp2_with fail
  go_loopg [12] p.parts.length (fun gk i wr => ∃ k : Nat, gk + k = p.parts.length ∧ i = .int .i64 k ∧ Hid ((p.parts.take k).all encPart = true) ∧ Ext (w.alloc (.cells #[.slice o p.parts.length cap] 35)) wr)
  case atStart => exact ⟨0, rfl, rfl, Lib.hid rfl, Ext.refl _⟩
  case round =>
   obtain ⟨k, hgk, rfl, HK, hx⟩ := hrel
   by_cases hlt : k < p.parts.length
   ·
    have HG := Lib.hid (show gk - 1 + (k + 1) = p.parts.length ∧ gk - 1 < gk by omega); clear hgk; obtain ⟨b, off, oh, ch, rfl, hc, hr⟩ := Part.at (r.ext (hx0.t hx)) k hlt; have h4 : (k : Int) < (p.parts.length : Int) := by omega
    try clear cf1
    have cf2 := blk1 (Ext.block hx HB0.out); have hx1 : Ext wr (wr.alloc (.cells #[.int .i64 p.parts[k].kind, .int .i64 p.parts[k].ts, .int .i64 p.parts[k].beta, .slice oh p.parts[k].hops.length ch] 74)) := (Ext.refl _).alloc _; have HB1 := Lib.hid (blk_new wr (.cells #[.int .i64 p.parts[k].kind, .int .i64 p.parts[k].ts, .int .i64 p.parts[k].beta, .slice oh p.parts[k].hops.length ch] 74)); have cf3 := blk1 (Ext.block (hx.t hx1) HB0.out); have cf4 := blk4 HB1.out; have cf5 := Part.at_ext hx1 hc
    go_wp2_with fail
    refine (i_InRange _ _ _ _).mono ?_; rintro e _ ⟨rfl, rfl⟩
    cases b1 : inR p.parts[k].kind 1 4
    ·
     have HE := Lib.hid (HN.out k hlt (show encPart p.parts[k] = false by unfold encPart; rw [b1]; rfl))
     go_wp2_with fail
     go_ret
     exact ⟨ret_bool HE.out.symm, ((hx0.t hx).t hx1)⟩
    ·
     go_wp2_with fail
     refine (i_InRange _ _ _ _).mono ?_; rintro e _ ⟨rfl, rfl⟩
     cases b2 : inR p.parts[k].ts 0 1000000
     ·
      have HE := Lib.hid (HN.out k hlt (show encPart p.parts[k] = false by unfold encPart; rw [b2]; simp))
      go_wp2_with fail
      go_ret
      exact ⟨ret_bool HE.out.symm, ((hx0.t hx).t hx1)⟩
     ·
      go_wp2_with fail
      refine (i_isResidue _ _).mono ?_; rintro e _ ⟨rfl, rfl⟩
      cases b3 : isRes p.parts[k].beta
      ·
       have HE := Lib.hid (HN.out k hlt (show encPart p.parts[k] = false by unfold encPart; rw [b3]; simp))
       go_wp2_with fail
       go_ret
       exact ⟨ret_bool HE.out.symm, ((hx0.t hx).t hx1)⟩
      ·
       go_wp2_with fail
       refine (i_hopsEncodable p.parts[k].hops _ _ (hr.ext hx1)).mono ?_; rintro e w4 ⟨rfl, hz4⟩
       cases b4 : hopsEnc p.parts[k].hops
       ·
        have HE := Lib.hid (HN.out k hlt (show encPart p.parts[k] = false by unfold encPart; rw [b4]; simp))
        try clear cf3
        try clear cf4
        try clear cf5
        have cf6 := blk1 (Ext.block ((hx.t hx1).t hz4) HB0.out); have cf7 := blk4 (Ext.block hz4 HB1.out); have cf8 := Part.at_ext (hx1.t hz4) hc
        go_wp2_with fail
        go_ret
        exact ⟨ret_bool HE.out.symm, (((hx0.t hx).t hx1).t hz4)⟩
       ·
        have HK2 := Lib.hid (all_snocB hlt HK.out (show encPart p.parts[k] = true by unfold encPart; rw [b1, b2, b3, b4]; rfl))
        try clear cf3
        try clear cf4
        try clear cf5
        have cf9 := blk1 (Ext.block ((hx.t hx1).t hz4) HB0.out); have cf10 := blk4 (Ext.block hz4 HB1.out); have cf11 := Part.at_ext (hx1.t hz4) hc
        go_wp2_with fail
        go_roundg (gk - 1)
        case measure => exact HG.out.2
        case rel => exact ⟨k + 1, HG.out.1, by go_num, HK2, ((hx.t hx1).t hz4)⟩
   ·
    obtain rfl : k = p.parts.length := by omega
    have HE := Lib.hid (HY.out HK.out)
    try clear cf1
    have cf12 := blk1 (Ext.block hx HB0.out)
    go_wp2_with fail
    go_ret
    exact ⟨ret_bool HE.out.symm, (hx0.t hx)⟩
 ·
  have h3i : ¬ (p.parts.length : Int) ≤ 3 := by omega
  have HE := Lib.hid (encPath_len h3)
  go_enter Tryz.func222, Tryz.ntmps222
  have cf13 := blk1 HB0.out
  go_wp2_with fail
  go_ret
  exact ⟨ret_bool HE.out.symm, hx0⟩
set_option maxRecDepth 100000 in
set_option maxHeartbeats 4000000 in
theorem s_EncodablePath (p : Pth) (v : Value) (w : World) (r : RdS Part.rep w v p.parts) :
  Calls Tryz.prog 181 #[.agg #[v]] w fun e w' => e = .returned (.bool (encPath p)) ∧ Ext w w' := by
 obtain ⟨o, cap, rfl, hsm⟩ := r.shape; have hx0 : Ext w (w.alloc (.cells #[.slice o p.parts.length cap] 35)) := (Ext.refl _).alloc _; have HB0 := Lib.hid (blk_new w (.cells #[.slice o p.parts.length cap] 35))
 by_cases h3 : p.parts.length ≤ 3
 ·
  have HY := Lib.hid (fun h => encPath_yes (p := p) h3 h); have h3i : (p.parts.length : Int) ≤ 3 := by omega
  have HN := Lib.hid (fun (k : Nat) => encPath_no (p := p) (k := k))
  go_enter Tryz.func181, Tryz.ntmps181
  have cf1 := blk1 HB0.out
  go_wp2_with fail
  go_loopg [3] p.parts.length (fun gk i wr => ∃ k : Nat, gk + k = p.parts.length ∧ i = .int .i64 k ∧ Hid ((p.parts.take k).all encPart = true) ∧ Ext (w.alloc (.cells #[.slice o p.parts.length cap] 35)) wr)
  case atStart => exact ⟨0, rfl, rfl, Lib.hid rfl, Ext.refl _⟩
  case round =>
   obtain ⟨k, hgk, rfl, HK, hx⟩ := hrel
   by_cases hlt : k < p.parts.length
   ·
    have HG := Lib.hid (show gk - 1 + (k + 1) = p.parts.length ∧ gk - 1 < gk by omega); clear hgk; obtain ⟨b, off, oh, ch, rfl, hc, hr⟩ := Part.at (r.ext (hx0.t hx)) k hlt; have h4 : (k : Int) < (p.parts.length : Int) := by omega
    try clear cf1
    have cf2 := blk1 (Ext.block hx HB0.out); have hx1 : Ext wr (wr.alloc (.cells #[.int .i64 p.parts[k].kind, .int .i64 p.parts[k].ts, .int .i64 p.parts[k].beta, .slice oh p.parts[k].hops.length ch] 74)) := (Ext.refl _).alloc _; have HB1 := Lib.hid (blk_new wr (.cells #[.int .i64 p.parts[k].kind, .int .i64 p.parts[k].ts, .int .i64 p.parts[k].beta, .slice oh p.parts[k].hops.length ch] 74)); have cf3 := blk1 (Ext.block (hx.t hx1) HB0.out); have cf4 := blk4 HB1.out; have cf5 := Part.at_ext hx1 hc
    go_wp2_with fail
    refine (s_l1In _ _ _ _).mono ?_; rintro e _ ⟨rfl, rfl⟩
    cases b1 : inR p.parts[k].kind 1 4
    ·
     have HE := Lib.hid (HN.out k hlt (show encPart p.parts[k] = false by unfold encPart; rw [b1]; rfl))
     go_wp2_with fail
     go_ret
     exact ⟨ret_bool HE.out.symm, ((hx0.t hx).t hx1)⟩
    ·
     have HEQ := Lib.hid (show encPart p.parts[k] = (inR p.parts[k].ts 0 1000000 && isRes p.parts[k].beta && hopsEnc p.parts[k].hops) by unfold encPart; rw [b1]; rfl)
     go_wp2_with fail
     refine (s_Encodable _ _ p.parts[k].hops _ _ (hr.ext hx1)).mono ?_; rintro e w2 ⟨rfl, hz2⟩; generalize (inR p.parts[k].ts 0 1000000 && isRes p.parts[k].beta && hopsEnc p.parts[k].hops) = en at *
     cases en
     ·
      have HE := Lib.hid (HN.out k hlt HEQ.out)
      try clear cf3
      try clear cf4
      try clear cf5
      have cf6 := blk1 (Ext.block ((hx.t hx1).t hz2) HB0.out); have cf7 := blk4 (Ext.block hz2 HB1.out); have cf8 := Part.at_ext (hx1.t hz2) hc
      go_wp2_with fail
      go_ret
      exact ⟨ret_bool HE.out.symm, (((hx0.t hx).t hx1).t hz2)⟩
     ·
      have HK2 := Lib.hid (all_snocB hlt HK.out HEQ.out)
      try clear cf3
      try clear cf4
      try clear cf5
      have cf9 := blk1 (Ext.block ((hx.t hx1).t hz2) HB0.out); have cf10 := blk4 (Ext.block hz2 HB1.out); have cf11 := Part.at_ext (hx1.t hz2) hc
      go_wp2_with fail
      go_roundg (gk - 1)
      case measure => exact HG.out.2
      case rel => exact ⟨k + 1, HG.out.1, by go_num, HK2, ((hx.t hx1).t hz2)⟩
   ·
    obtain rfl : k = p.parts.length := by omega
    have HE := Lib.hid (HY.out HK.out)
    try clear cf1
    have cf12 := blk1 (Ext.block hx HB0.out)
    go_wp2_with fail
    go_ret
    exact ⟨ret_bool HE.out.symm, (hx0.t hx)⟩
 ·
  have h3i : ¬ (p.parts.length : Int) ≤ 3 := by omega
  have HE := Lib.hid (encPath_len h3)
  go_enter Tryz.func181, Tryz.ntmps181
  have cf13 := blk1 HB0.out
  go_wp2_with fail
  go_ret
  exact ⟨ret_bool HE.out.symm, hx0⟩
set_option maxRecDepth 100000 in
set_option maxHeartbeats 4000000 in
theorem i_CurrentAS (x : Pkt) (v0 v1 : Value) (w : World) (r0 : RdS Part.rep w v0 x.path.parts) :
  Calls Tryz.prog 44 #[.agg #[.int .i64 x.kind, .int .i64 x.src, .int .i64 x.dst, v0, .int .i64 x.pi, .int .i64 x.hi, .int .i64 x.beta, .int .i64 x.rid, .int .i64 x.seq, v1]] w fun e w' => e = .returned (.int .i64 (curAs x)) ∧ Ext w w' := by
 obtain ⟨o, cap, rfl, hsm⟩ := r0.shape; have hx0 : Ext w (w.alloc (.cells #[.int .i64 x.kind, .int .i64 x.src, .int .i64 x.dst, .slice o x.path.parts.length cap, .int .i64 x.pi, .int .i64 x.hi, .int .i64 x.beta, .int .i64 x.rid, .int .i64 x.seq, v1] 58)) := (Ext.refl _).alloc _; have HB0 := Lib.hid (blk_new w (.cells #[.int .i64 x.kind, .int .i64 x.src, .int .i64 x.dst, .slice o x.path.parts.length cap, .int .i64 x.pi, .int .i64 x.hi, .int .i64 x.beta, .int .i64 x.rid, .int .i64 x.seq, v1] 58))
 go_enter Tryz.func44, Tryz.ntmps44
 have cf1 := blk10 HB0.out
 go_wp2_with fail
 refine (i_hasHop x _ _ _ (r0.ext hx0)).mono ?_; rintro e w1 ⟨rfl, hz1⟩
 cases b1 : hasHop x
 ·
  have HE := Lib.hid (show curAs x = -1 by unfold curAs; rw [b1]; rfl)
  try clear cf1
  have cf2 := blk10 (Ext.block hz1 HB0.out)
  go_wp2_with fail
  go_ret
  exact ⟨ret_int HE.out.symm, (hx0.t hz1)⟩
 ·
  obtain ⟨⟨p0, p1, p2⟩, q0, q1, q2⟩ := hasHop_parts b1; have hcp := curPart_at p2; obtain ⟨b, off, oh, ch, rfl, hc, hr⟩ := Part.at (r0.ext (hx0.t hz1)) x.pi.toNat p2; rw [← hcp] at hc hr; clear hcp; have hch := curHop_at q2; obtain ⟨b3, off3, rfl, ht⟩ := Hop.at hr x.hi.toNat q2; rw [← hch] at ht; have HE := Lib.hid (show curAs x = (curHop x).asn by unfold curAs; rw [b1]; rfl); clear hch
  try clear cf1
  have cf3 := blk10 (Ext.block hz1 HB0.out)
  go_wp2_with fail
  refine wp_region_ext (by kernel_rfl) (by kernel_rfl) ?_; have q0 := ExtW.cell (cf3.1); have q1 := ExtW.cell (cf3.2.1); have q2 := ExtW.cell (cf3.2.2.1); have q3 := ExtW.cell (cf3.2.2.2.1); have q4 := ExtW.cell (cf3.2.2.2.2.1); have q5 := ExtW.cell (cf3.2.2.2.2.2.1); have q6 := ExtW.cell (cf3.2.2.2.2.2.2.1); have q7 := ExtW.cell (cf3.2.2.2.2.2.2.2.1); have q8 := ExtW.cell (cf3.2.2.2.2.2.2.2.2.1); have q9 := ExtW.cell (cf3.2.2.2.2.2.2.2.2.2); have q10 := ExtW.cell (hc.1); have q11 := ExtW.cell (hc.2.1); have q12 := ExtW.cell (hc.2.2.1); have q13 := ExtW.cell (hc.2.2.2); have q14 := ExtW.cell (ht.1); have q15 := ExtW.cell (ht.2.1); have q16 := ExtW.cell (ht.2.2.1); have q17 := ExtW.cell (ht.2.2.2.1); have q18 := ExtW.cell (ht.2.2.2.2)
  repeat (first | go_big_quiet_step ((fail)) | quiet_step ((fail)))
  refine wpQuiet_nil ?_; intro w2 hw2; have hz2 := ExtW.out hw2; clear hw2 q0 q1 q2 q3 q4 q5 q6 q7 q8 q9 q10 q11 q12 q13 q14 q15 q16 q17 q18
  try clear cf3
  have cf4 := blk10 (Ext.block (hz1.t hz2) HB0.out); have cf5 := Part.at_ext hz2 hc; have cf6 := hopc_ext hz2 ht
  go_wp2_with fail
  go_ret
  exact ⟨ret_int HE.out.symm, ((hx0.t hz1).t hz2)⟩
set_option maxRecDepth 100000 in
set_option maxHeartbeats 4000000 in
theorem i_lastOfPart (x : Pkt) (v0 v1 : Value) (w : World) (r0 : RdS Part.rep w v0 x.path.parts) (hp0 : 0 ≤ x.pi) (hp1 : x.pi.toNat < x.path.parts.length) :
  Calls Tryz.prog 128 #[.agg #[.int .i64 x.kind, .int .i64 x.src, .int .i64 x.dst, v0, .int .i64 x.pi, .int .i64 x.hi, .int .i64 x.beta, .int .i64 x.rid, .int .i64 x.seq, v1]] w fun e w' => e = .returned (.bool (lastOf x)) ∧ Ext w w' := by
 obtain ⟨o, cap, rfl, hsm⟩ := r0.shape; have hx0 : Ext w (w.alloc (.cells #[.int .i64 x.kind, .int .i64 x.src, .int .i64 x.dst, .slice o x.path.parts.length cap, .int .i64 x.pi, .int .i64 x.hi, .int .i64 x.beta, .int .i64 x.rid, .int .i64 x.seq, v1] 58)) := (Ext.refl _).alloc _; have HB0 := Lib.hid (blk_new w (.cells #[.int .i64 x.kind, .int .i64 x.src, .int .i64 x.dst, .slice o x.path.parts.length cap, .int .i64 x.pi, .int .i64 x.hi, .int .i64 x.beta, .int .i64 x.rid, .int .i64 x.seq, v1] 58))
 go_enter Tryz.func128, Tryz.ntmps128
 have hcp := curPart_at hp1; obtain ⟨b, off, oh, ch, rfl, hc, hr⟩ := Part.at (r0.ext hx0) x.pi.toNat hp1; rw [← hcp] at hc hr; clear hcp; have hp2 : x.pi < (x.path.parts.length : Int) := by omega
 obtain ⟨oh', ch', eh, hhl⟩ := hr.shape; have hhl2 : (curPart x).hops.length ≤ 9223372036854775807 := hhl; clear eh hhl; have hw2 : IntKind.i64.wrap (((curPart x).hops.length : Int) - 1) = ((curPart x).hops.length : Int) - 1 := IntWalk.i64_in _ (by omega); have HE := Lib.hid (show lastOf x = (x.hi == ((curPart x).hops.length : Int) - 1) from rfl); have cf1 := blk10 HB0.out
 go_wp2_with fail
 refine wp_region_ext (by kernel_rfl) (by kernel_rfl) ?_; have q0 := ExtW.cell (cf1.1); have q1 := ExtW.cell (cf1.2.1); have q2 := ExtW.cell (cf1.2.2.1); have q3 := ExtW.cell (cf1.2.2.2.1); have q4 := ExtW.cell (cf1.2.2.2.2.1); have q5 := ExtW.cell (cf1.2.2.2.2.2.1); have q6 := ExtW.cell (cf1.2.2.2.2.2.2.1); have q7 := ExtW.cell (cf1.2.2.2.2.2.2.2.1); have q8 := ExtW.cell (cf1.2.2.2.2.2.2.2.2.1); have q9 := ExtW.cell (cf1.2.2.2.2.2.2.2.2.2); have q10 := ExtW.cell (hc.1); have q11 := ExtW.cell (hc.2.1); have q12 := ExtW.cell (hc.2.2.1); have q13 := ExtW.cell (hc.2.2.2)
 repeat (first | go_big_quiet_step ((fail)) | quiet_step ((fail)))
 refine wpQuiet_nil ?_; intro w1 hw1; have hz1 := ExtW.out hw1; clear hw1 q0 q1 q2 q3 q4 q5 q6 q7 q8 q9 q10 q11 q12 q13; clear hw2
 try clear cf1
 have cf2 := blk10 (Ext.block hz1 HB0.out); have cf3 := Part.at_ext hz1 hc
 go_wp2_with fail
 go_ret
 exact ⟨ret_bool HE.out.symm, (hx0.t hz1)⟩
set_option maxRecDepth 100000 in
set_option maxHeartbeats 4000000 in
theorem i_AtLastHop (x : Pkt) (v0 v1 : Value) (w : World) (r0 : RdS Part.rep w v0 x.path.parts) :
  Calls Tryz.prog 47 #[.agg #[.int .i64 x.kind, .int .i64 x.src, .int .i64 x.dst, v0, .int .i64 x.pi, .int .i64 x.hi, .int .i64 x.beta, .int .i64 x.rid, .int .i64 x.seq, v1]] w fun e w' => e = .returned (.bool (atLast x)) ∧ Ext w w' := by
 obtain ⟨o, cap, rfl, hsm⟩ := r0.shape; have hx0 : Ext w (w.alloc (.cells #[.int .i64 x.kind, .int .i64 x.src, .int .i64 x.dst, .slice o x.path.parts.length cap, .int .i64 x.pi, .int .i64 x.hi, .int .i64 x.beta, .int .i64 x.rid, .int .i64 x.seq, v1] 58)) := (Ext.refl _).alloc _; have HB0 := Lib.hid (blk_new w (.cells #[.int .i64 x.kind, .int .i64 x.src, .int .i64 x.dst, .slice o x.path.parts.length cap, .int .i64 x.pi, .int .i64 x.hi, .int .i64 x.beta, .int .i64 x.rid, .int .i64 x.seq, v1] 58))
 go_enter Tryz.func47, Tryz.ntmps47
 have cf1 := blk10 HB0.out
 go_wp2_with fail
 refine (i_CurrentAS x _ _ _ (r0.ext hx0)).mono ?_; rintro e w1 ⟨rfl, hz1⟩
 by_cases b0 : 0 ≤ curAs x
 ·
  obtain ⟨⟨p0, p1, p2⟩, q0, q1, q2⟩ := hasHop_parts (curAs_has (show ¬ curAs x < 0 by omega))
  try clear cf1
  have cf2 := blk10 (Ext.block hz1 HB0.out)
  go_wp2_with fail
  refine (i_lastOfPart x _ _ _ (r0.ext (hx0.t hz1)) p0 p2).mono ?_; rintro e w2 ⟨rfl, hz2⟩
  cases b1 : lastOf x
  ·
   have HE := Lib.hid (show atLast x = false by unfold atLast; rw [b1]; simp)
   try clear cf2
   have cf3 := blk10 (Ext.block (hz1.t hz2) HB0.out)
   go_wp2_with fail
   go_ret
   exact ⟨ret_bool HE.out.symm, ((hx0.t hz1).t hz2)⟩
  ·
   have HE := Lib.hid (show atLast x = (x.pi == (x.path.parts.length : Int) - 1) by unfold atLast; rw [b1, decide_eq_true b0]; rfl)
   try clear cf2
   have cf4 := blk10 (Ext.block (hz1.t hz2) HB0.out)
   go_wp2_with fail
   go_ret
   exact ⟨ret_bool HE.out.symm, ((hx0.t hz1).t hz2)⟩
 ·
  have HE := Lib.hid (show atLast x = false by unfold atLast; rw [decide_eq_false b0]; rfl)
  try clear cf1
  have cf5 := blk10 (Ext.block hz1 HB0.out)
  go_wp2_with fail
  go_ret
  exact ⟨ret_bool HE.out.symm, (hx0.t hz1)⟩
set_option maxRecDepth 100000 in
set_option maxHeartbeats 4000000 in
theorem s_AtLastHop (x : Pkt) (v0 v1 : Value) (w : World) (r0 : RdS Part.rep w v0 x.path.parts) :
  Calls Tryz.prog 115 #[.agg #[.int .i64 x.kind, .int .i64 x.src, .int .i64 x.dst, v0, .int .i64 x.pi, .int .i64 x.hi, .int .i64 x.beta, .int .i64 x.rid, .int .i64 x.seq, v1]] w fun e w' => e = .returned (.bool (atLast x)) ∧ Ext w w' := by
 obtain ⟨o, cap, rfl, hsm⟩ := r0.shape; have hx0 : Ext w (w.alloc (.cells #[.int .i64 x.kind, .int .i64 x.src, .int .i64 x.dst, .slice o x.path.parts.length cap, .int .i64 x.pi, .int .i64 x.hi, .int .i64 x.beta, .int .i64 x.rid, .int .i64 x.seq, v1] 58)) := (Ext.refl _).alloc _; have HB0 := Lib.hid (blk_new w (.cells #[.int .i64 x.kind, .int .i64 x.src, .int .i64 x.dst, .slice o x.path.parts.length cap, .int .i64 x.pi, .int .i64 x.hi, .int .i64 x.beta, .int .i64 x.rid, .int .i64 x.seq, v1] 58))
 go_enter Tryz.func115, Tryz.ntmps115
 have hw1 : IntKind.i64.wrap ((x.path.parts.length : Int) - 1) = (x.path.parts.length : Int) - 1 := IntWalk.i64_in _ (by omega)
 by_cases b0 : 0 ≤ curAs x
 ·
  have d0 : decide (0 ≤ curAs x) = true := decide_eq_true b0; obtain ⟨⟨p0, p1, p2⟩, q0, q1, q2⟩ := hasHop_parts (curAs_has (show ¬ curAs x < 0 by omega)); have hcp := curPart_at p2; obtain ⟨b, off, oh, ch, rfl, hc, hr⟩ := Part.at (r0.ext hx0) x.pi.toNat p2; rw [← hcp] at hc hr; clear hcp; obtain ⟨oh', ch', eh, hhl⟩ := hr.shape; have hhl2 : (curPart x).hops.length ≤ 9223372036854775807 := hhl; clear eh hhl; have hw2 : IntKind.i64.wrap (((curPart x).hops.length : Int) - 1) = ((curPart x).hops.length : Int) - 1 := IntWalk.i64_in _ (by omega)
  cases b1 : (x.pi == (x.path.parts.length : Int) - 1)
  ·
   have HE := Lib.hid (show atLast x = false by unfold atLast; rw [b1]; simp); have cf1 := blk10 HB0.out
   go_wp2_with fail
   refine wp_region_ext (by kernel_rfl) (by kernel_rfl) ?_; have q0 := ExtW.cell (cf1.1); have q1 := ExtW.cell (cf1.2.1); have q2 := ExtW.cell (cf1.2.2.1); have q3 := ExtW.cell (cf1.2.2.2.1); have q4 := ExtW.cell (cf1.2.2.2.2.1); have q5 := ExtW.cell (cf1.2.2.2.2.2.1); have q6 := ExtW.cell (cf1.2.2.2.2.2.2.1); have q7 := ExtW.cell (cf1.2.2.2.2.2.2.2.1); have q8 := ExtW.cell (cf1.2.2.2.2.2.2.2.2.1); have q9 := ExtW.cell (cf1.2.2.2.2.2.2.2.2.2); have q10 := ExtW.cell (hc.1); have q11 := ExtW.cell (hc.2.1); have q12 := ExtW.cell (hc.2.2.1); have q13 := ExtW.cell (hc.2.2.2)
   repeat (first | go_big_quiet_step (((first | (go_at_call 110; exact Calls.ext_of (s_CurrentAS x _ _ _ ((r0.ext hx0).ext (ExtW.h _))))))) | quiet_step (((first | (go_at_call 110; exact Calls.ext_of (s_CurrentAS x _ _ _ ((r0.ext hx0).ext (ExtW.h _))))))))
   refine wpQuiet_nil ?_; intro w1 hw1; have hz1 := ExtW.out hw1; clear hw1 q0 q1 q2 q3 q4 q5 q6 q7 q8 q9 q10 q11 q12 q13; clear hw1 hw2
   try clear cf1
   have cf2 := blk10 (Ext.block hz1 HB0.out); have cf3 := Part.at_ext hz1 hc
   go_wp2_with fail
   go_ret
   exact ⟨ret_bool HE.out.symm, (hx0.t hz1)⟩
  ·
   have HE := Lib.hid (show atLast x = (x.hi == ((curPart x).hops.length : Int) - 1) by unfold atLast lastOf; rw [b1, decide_eq_true b0]; simp); have cf4 := blk10 HB0.out
   go_wp2_with fail
   refine wp_region_ext (by kernel_rfl) (by kernel_rfl) ?_; have q0 := ExtW.cell (cf4.1); have q1 := ExtW.cell (cf4.2.1); have q2 := ExtW.cell (cf4.2.2.1); have q3 := ExtW.cell (cf4.2.2.2.1); have q4 := ExtW.cell (cf4.2.2.2.2.1); have q5 := ExtW.cell (cf4.2.2.2.2.2.1); have q6 := ExtW.cell (cf4.2.2.2.2.2.2.1); have q7 := ExtW.cell (cf4.2.2.2.2.2.2.2.1); have q8 := ExtW.cell (cf4.2.2.2.2.2.2.2.2.1); have q9 := ExtW.cell (cf4.2.2.2.2.2.2.2.2.2); have q10 := ExtW.cell (hc.1); have q11 := ExtW.cell (hc.2.1); have q12 := ExtW.cell (hc.2.2.1); have q13 := ExtW.cell (hc.2.2.2)
   repeat (first | go_big_quiet_step (((first | (go_at_call 110; exact Calls.ext_of (s_CurrentAS x _ _ _ ((r0.ext hx0).ext (ExtW.h _))))))) | quiet_step (((first | (go_at_call 110; exact Calls.ext_of (s_CurrentAS x _ _ _ ((r0.ext hx0).ext (ExtW.h _))))))))
   refine wpQuiet_nil ?_; intro w2 hw2; have hz2 := ExtW.out hw2; clear hw2 q0 q1 q2 q3 q4 q5 q6 q7 q8 q9 q10 q11 q12 q13; clear hw1 hw2
   try clear cf4
   have cf5 := blk10 (Ext.block hz2 HB0.out); have cf6 := Part.at_ext hz2 hc
   go_wp2_with fail
   go_ret
   exact ⟨ret_bool HE.out.symm, (hx0.t hz2)⟩
 ·
  have d0 : decide (0 ≤ curAs x) = false := decide_eq_false b0; have HE := Lib.hid (show atLast x = false by unfold atLast; rw [decide_eq_false b0]; rfl); have cf7 := blk10 HB0.out
  go_wp2_with fail
  refine wp_region_ext (by kernel_rfl) (by kernel_rfl) ?_; have q0 := ExtW.cell (cf7.1); have q1 := ExtW.cell (cf7.2.1); have q2 := ExtW.cell (cf7.2.2.1); have q3 := ExtW.cell (cf7.2.2.2.1); have q4 := ExtW.cell (cf7.2.2.2.2.1); have q5 := ExtW.cell (cf7.2.2.2.2.2.1); have q6 := ExtW.cell (cf7.2.2.2.2.2.2.1); have q7 := ExtW.cell (cf7.2.2.2.2.2.2.2.1); have q8 := ExtW.cell (cf7.2.2.2.2.2.2.2.2.1); have q9 := ExtW.cell (cf7.2.2.2.2.2.2.2.2.2)
  repeat (first | go_big_quiet_step (((first | (go_at_call 110; exact Calls.ext_of (s_CurrentAS x _ _ _ ((r0.ext hx0).ext (ExtW.h _))))))) | quiet_step (((first | (go_at_call 110; exact Calls.ext_of (s_CurrentAS x _ _ _ ((r0.ext hx0).ext (ExtW.h _))))))))
  refine wpQuiet_nil ?_; intro w3 hw3; have hz3 := ExtW.out hw3; clear hw3 q0 q1 q2 q3 q4 q5 q6 q7 q8 q9; clear hw1
  try clear cf7
  have cf8 := blk10 (Ext.block hz3 HB0.out)
  go_wp2_with fail
  go_ret
  exact ⟨ret_bool HE.out.symm, (hx0.t hz3)⟩
set_option maxRecDepth 100000 in
set_option maxHeartbeats 16000000 in
theorem i_ValidPacket (x : Pkt) (v0 v1 : Value) (w : World) (r0 : RdS Part.rep w v0 x.path.parts) (r1 : RdS Rep.byte w v1 x.pay) :
  Calls Tryz.prog 178 #[.agg #[.int .i64 x.kind, .int .i64 x.src, .int .i64 x.dst, v0, .int .i64 x.pi, .int .i64 x.hi, .int .i64 x.beta, .int .i64 x.rid, .int .i64 x.seq, v1]] w fun e w' => e = .returned (.bool (validPkt x)) ∧ Ext w w' := by
 obtain ⟨o, cap, rfl, hsm⟩ := r0.shape; obtain ⟨oy, cy, rfl, hsy⟩ := r1.shape; have HVP := Lib.hid (validPkt_eq x); have hx0 : Ext w (w.alloc (.cells #[.int .i64 x.kind, .int .i64 x.src, .int .i64 x.dst, .slice o x.path.parts.length cap, .int .i64 x.pi, .int .i64 x.hi, .int .i64 x.beta, .int .i64 x.rid, .int .i64 x.seq, .slice oy x.pay.length cy] 58)) := (Ext.refl _).alloc _; have HB0 := Lib.hid (blk_new w (.cells #[.int .i64 x.kind, .int .i64 x.src, .int .i64 x.dst, .slice o x.path.parts.length cap, .int .i64 x.pi, .int .i64 x.hi, .int .i64 x.beta, .int .i64 x.rid, .int .i64 x.seq, .slice oy x.pay.length cy] 58))
 go_enter Tryz.func178, Tryz.ntmps178
 have cf1 := blk10 HB0.out
 go_wp2_with fail
 refine (i_InRange _ _ _ _).mono ?_; rintro e _ ⟨rfl, rfl⟩
 cases b1 : inR x.kind 1 3
 ·
  have HE := Lib.hid (show validPkt x = false by rw [HVP.out, b1]; simp)
  go_wp2_with fail
  go_ret
  exact ⟨ret_bool HE.out.symm, hx0⟩
 ·
  go_wp2_with fail
  refine (i_EncodablePath x.path _ _ (r0.ext hx0)).mono ?_; rintro e w2 ⟨rfl, hz2⟩
  cases b2 : encPath x.path
  ·
   have HE := Lib.hid (show validPkt x = false by rw [HVP.out, b2]; simp)
   try clear cf1
   have cf2 := blk10 (Ext.block hz2 HB0.out)
   go_wp2_with fail
   go_ret
   exact ⟨ret_bool HE.out.symm, (hx0.t hz2)⟩
  ·
   have HEC := Lib.hid (enc_curAs b2)
   by_cases b0 : x.path.parts.length = 0
   ·
    have h0 : ((x.path.parts.length : Int) == 0) = true := by rw [beq_iff_eq]; omega
    have hh : hasHop x = false := by
     cases h : hasHop x
     ·
      rfl
     ·
      have := (hasHop_parts h).1; omega
    clear b0; have HE := Lib.hid (show validPkt x = false by rw [HVP.out, hh]; simp)
    try clear cf1
    have cf3 := blk10 (Ext.block hz2 HB0.out)
    go_wp2_with fail
    go_ret
    exact ⟨ret_bool HE.out.symm, (hx0.t hz2)⟩
   ·
    have h0 : ((x.path.parts.length : Int) == 0) = false := by rw [beq_eq_false_iff_ne]; omega
    try clear cf1
    have cf4 := blk10 (Ext.block hz2 HB0.out)
    go_wp2_with fail
    refine (i_CurrentAS x _ _ _ (r0.ext (hx0.t hz2))).mono ?_; rintro e w3 ⟨rfl, hz3⟩
    by_cases b3 : curAs x < 0
    ·
     have hh : hasHop x = false := by rw [HEC.out]; exact decide_eq_false (by omega)
     have HE := Lib.hid (show validPkt x = false by rw [HVP.out, hh]; simp)
     try clear cf4
     have cf5 := blk10 (Ext.block (hz2.t hz3) HB0.out)
     go_wp2_with fail
     go_ret
     exact ⟨ret_bool HE.out.symm, ((hx0.t hz2).t hz3)⟩
    ·
     have BH : Hid (hasHop x = true) := Lib.hid (by rw [HEC.out]; exact decide_eq_true (by omega))
     try clear cf4
     have cf6 := blk10 (Ext.block (hz2.t hz3) HB0.out)
     go_wp2_with fail
     refine (i_isResidue _ _).mono ?_; rintro e _ ⟨rfl, rfl⟩
     cases b4 : isRes x.beta
     ·
      have HE := Lib.hid (show validPkt x = false by rw [HVP.out, b4]; simp)
      go_wp2_with fail
      go_ret
      exact ⟨ret_bool HE.out.symm, ((hx0.t hz2).t hz3)⟩
     ·
      go_wp2_with fail
      obtain ⟨we, hwe⟩ : ∃ we : World, we = w3 := ⟨_, rfl⟩
      subst hwe
      go_loopg [37] x.path.parts.length (fun gk i wr => ∃ k : Nat, gk + k = x.path.parts.length ∧ i = .int .i64 k ∧ Hid ((x.path.parts.take k).all (fun y => decide (0 < y.hops.length)) = true) ∧ Ext we wr)
      case atStart => exact ⟨0, rfl, rfl, Lib.hid rfl, Ext.refl _⟩
      case round =>
       obtain ⟨k, hgk, rfl, HK, hx⟩ := hrel
       by_cases hlt : k < x.path.parts.length
       ·
        have HG := Lib.hid (show gk - 1 + (k + 1) = x.path.parts.length ∧ gk - 1 < gk by omega); clear hgk; obtain ⟨b, off, oh, ch, rfl, hc, hr⟩ := Part.at (r0.ext (((hx0.t hz2).t hz3).t hx)) k hlt; have h4 : (k : Int) < (x.path.parts.length : Int) := by omega
        try clear cf6
        have cf7 := blk10 (Ext.block ((hz2.t hz3).t hx) HB0.out); have hx1 : Ext wr (wr.alloc (.cells #[.int .i64 x.path.parts[k].kind, .int .i64 x.path.parts[k].ts, .int .i64 x.path.parts[k].beta, .slice oh x.path.parts[k].hops.length ch] 74)) := (Ext.refl _).alloc _; have HB1 := Lib.hid (blk_new wr (.cells #[.int .i64 x.path.parts[k].kind, .int .i64 x.path.parts[k].ts, .int .i64 x.path.parts[k].beta, .slice oh x.path.parts[k].hops.length ch] 74))
        by_cases h5 : 0 < x.path.parts[k].hops.length
        ·
         have h6 : ((x.path.parts[k].hops.length : Int) == 0) = false := by rw [beq_eq_false_iff_ne]; omega
         have HK2 := Lib.hid (all_snocB hlt HK.out (decide_eq_true h5)); have cf8 := blk10 (Ext.block (((hz2.t hz3).t hx).t hx1) HB0.out); have cf9 := blk4 HB1.out; have cf10 := Part.at_ext hx1 hc
         go_wp2_with fail
         go_roundg (gk - 1)
         case measure => exact HG.out.2
         case rel => exact ⟨k + 1, HG.out.1, by go_num, HK2, (hx.t hx1)⟩
        ·
         have h6 : ((x.path.parts[k].hops.length : Int) == 0) = true := by rw [beq_iff_eq]; omega
         have HE := Lib.hid (show validPkt x = false by rw [HVP.out, partsFull_no hlt h5]; simp); have cf11 := blk10 (Ext.block (((hz2.t hz3).t hx).t hx1) HB0.out); have cf12 := blk4 HB1.out; have cf13 := Part.at_ext hx1 hc
         go_wp2_with fail
         go_ret
         exact ⟨ret_bool HE.out.symm, ((((hx0.t hz2).t hz3).t hx).t hx1)⟩
       ·
        obtain rfl : k = x.path.parts.length := by omega
        have HPF : Hid (partsFull x.path.parts = true) := by have h := HK.out; rw [List.take_length] at h; exact Lib.hid h
        have HT := Lib.hid (show validPkt x = pktTail x by rw [HVP.out, b1, b2, BH.out, b4, HPF.out]; rfl); have HPT := Lib.hid (show pktTail x = (inR x.src 0 7 && inR x.dst 0 7 && inR x.rid 0 100000 && inR x.seq 0 100000 && decide (x.pay.length ≤ 40)) from rfl)
        try clear cf6
        have cf14 := blk10 (Ext.block ((hz2.t hz3).t hx) HB0.out)
        go_wp2_with fail
        refine (i_InRange _ _ _ _).mono ?_; rintro e _ ⟨rfl, rfl⟩
        cases c1 : inR x.src 0 7
        ·
         have HE := Lib.hid (show validPkt x = false by rw [HT.out, HPT.out]; simp [c1])
         go_wp2_with fail
         go_ret
         exact ⟨ret_bool HE.out.symm, (((hx0.t hz2).t hz3).t hx)⟩
        ·
         go_wp2_with fail
         refine (i_InRange _ _ _ _).mono ?_; rintro e _ ⟨rfl, rfl⟩
         cases c2 : inR x.dst 0 7
         ·
          have HE := Lib.hid (show validPkt x = false by rw [HT.out, HPT.out]; simp [c2])
          go_wp2_with fail
          go_ret
          exact ⟨ret_bool HE.out.symm, (((hx0.t hz2).t hz3).t hx)⟩
         ·
          go_wp2_with fail
          refine (i_InRange _ _ _ _).mono ?_; rintro e _ ⟨rfl, rfl⟩
          cases c3 : inR x.rid 0 100000
          ·
           have HE := Lib.hid (show validPkt x = false by rw [HT.out, HPT.out]; simp [c3])
           go_wp2_with fail
           go_ret
           exact ⟨ret_bool HE.out.symm, (((hx0.t hz2).t hz3).t hx)⟩
          ·
           go_wp2_with fail
           refine (i_InRange _ _ _ _).mono ?_; rintro e _ ⟨rfl, rfl⟩
           cases c4 : inR x.seq 0 100000
           ·
            have HE := Lib.hid (show validPkt x = false by rw [HT.out, HPT.out]; simp [c4])
            go_wp2_with fail
            go_ret
            exact ⟨ret_bool HE.out.symm, (((hx0.t hz2).t hz3).t hx)⟩
           ·
            by_cases c5 : x.pay.length ≤ 40
            ·
             have c6 : (x.pay.length : Int) ≤ 40 := by omega
             have HE := Lib.hid (show validPkt x = true by rw [HT.out, HPT.out, c1, c2, c3, c4, decide_eq_true c5]; rfl)
             go_wp2_with fail
             go_ret
             exact ⟨ret_bool (by rw [HE.out]), (((hx0.t hz2).t hz3).t hx)⟩
            ·
             have c6 : ¬ (x.pay.length : Int) ≤ 40 := by omega
             have HE := Lib.hid (show validPkt x = false by rw [HT.out, HPT.out, decide_eq_false c5]; simp)
             go_wp2_with fail
             go_ret
             exact ⟨ret_bool (by rw [HE.out]; first | exact decide_eq_false c6 | (simp; omega)), (((hx0.t hz2).t hz3).t hx)⟩
set_option maxRecDepth 100000 in
set_option maxHeartbeats 16000000 in
theorem s_ValidPacket (x : Pkt) (v0 v1 : Value) (w : World) (r0 : RdS Part.rep w v0 x.path.parts) (r1 : RdS Rep.byte w v1 x.pay) :
  Calls Tryz.prog 108 #[.agg #[.int .i64 x.kind, .int .i64 x.src, .int .i64 x.dst, v0, .int .i64 x.pi, .int .i64 x.hi, .int .i64 x.beta, .int .i64 x.rid, .int .i64 x.seq, v1]] w fun e w' => e = .returned (.bool (validPkt x)) ∧ Ext w w' := by
 obtain ⟨o, cap, rfl, hsm⟩ := r0.shape; obtain ⟨oy, cy, rfl, hsy⟩ := r1.shape; have HVP := Lib.hid (validPkt_eq x); have hx0 : Ext w (w.alloc (.cells #[.int .i64 x.kind, .int .i64 x.src, .int .i64 x.dst, .slice o x.path.parts.length cap, .int .i64 x.pi, .int .i64 x.hi, .int .i64 x.beta, .int .i64 x.rid, .int .i64 x.seq, .slice oy x.pay.length cy] 58)) := (Ext.refl _).alloc _; have HB0 := Lib.hid (blk_new w (.cells #[.int .i64 x.kind, .int .i64 x.src, .int .i64 x.dst, .slice o x.path.parts.length cap, .int .i64 x.pi, .int .i64 x.hi, .int .i64 x.beta, .int .i64 x.rid, .int .i64 x.seq, .slice oy x.pay.length cy] 58))
 go_enter Tryz.func108, Tryz.ntmps108
 have cf1 := blk10 HB0.out
 go_wp2_with fail
 refine (s_l1In _ _ _ _).mono ?_; rintro e _ ⟨rfl, rfl⟩
 cases b1 : inR x.kind 1 3
 ·
  have HE := Lib.hid (show validPkt x = false by rw [HVP.out, b1]; simp)
  go_wp2_with fail
  go_ret
  exact ⟨ret_bool HE.out.symm, hx0⟩
 ·
  go_wp2_with fail
  refine (s_EncodablePath x.path _ _ (r0.ext hx0)).mono ?_; rintro e w2 ⟨rfl, hz2⟩
  cases b2 : encPath x.path
  ·
   have HE := Lib.hid (show validPkt x = false by rw [HVP.out, b2]; simp)
   try clear cf1
   have cf2 := blk10 (Ext.block hz2 HB0.out)
   go_wp2_with fail
   go_ret
   exact ⟨ret_bool HE.out.symm, (hx0.t hz2)⟩
  ·
   have HEC := Lib.hid (enc_curAs b2)
   try clear cf1
   have cf3 := blk10 (Ext.block hz2 HB0.out)
   go_wp2_with fail
   refine (s_l1In _ _ _ _).mono ?_; rintro e _ ⟨rfl, rfl⟩
   cases b3 : inR x.pi 0 ((x.path.parts.length : Int) - 1)
   ·
    have hh : hasHop x = false := by unfold hasHop; rw [b3]; rfl
    have HE := Lib.hid (show validPkt x = false by rw [HVP.out, hh]; simp)
    go_wp2_with fail
    go_ret
    exact ⟨ret_bool HE.out.symm, (hx0.t hz2)⟩
   ·
    go_wp2_with fail
    refine (s_l3Ok _ _).mono ?_; rintro e _ ⟨rfl, rfl⟩
    cases b4 : isRes x.beta
    ·
     have HE := Lib.hid (show validPkt x = false by rw [HVP.out, b4]; simp)
     go_wp2_with fail
     go_ret
     exact ⟨ret_bool HE.out.symm, (hx0.t hz2)⟩
    ·
     go_wp2_with fail
     obtain ⟨we, hwe⟩ : ∃ we : World, we = w2 := ⟨_, rfl⟩
     subst hwe
     go_loopg [3] x.path.parts.length (fun gk i wr => ∃ k : Nat, gk + k = x.path.parts.length ∧ i = .int .i64 k ∧ Hid ((x.path.parts.take k).all (fun y => decide (0 < y.hops.length)) = true) ∧ Ext we wr)
     case atStart => exact ⟨0, rfl, rfl, Lib.hid rfl, Ext.refl _⟩
     case round =>
      obtain ⟨k, hgk, rfl, HK, hx⟩ := hrel
      by_cases hlt : k < x.path.parts.length
      ·
       have HG := Lib.hid (show gk - 1 + (k + 1) = x.path.parts.length ∧ gk - 1 < gk by omega); clear hgk; obtain ⟨b, off, oh, ch, rfl, hc, hr⟩ := Part.at (r0.ext ((hx0.t hz2).t hx)) k hlt; have h4 : (k : Int) < (x.path.parts.length : Int) := by omega
       by_cases h5 : 0 < x.path.parts[k].hops.length
       ·
        have h6 : ((x.path.parts[k].hops.length : Int) == 0) = false := by rw [beq_eq_false_iff_ne]; omega
        have HK2 := Lib.hid (all_snocB hlt HK.out (decide_eq_true h5))
        try clear cf3
        have cf4 := blk10 (Ext.block (hz2.t hx) HB0.out)
        go_wp2_with fail
        go_roundg (gk - 1)
        case measure => exact HG.out.2
        case rel => exact ⟨k + 1, HG.out.1, by go_num, HK2, hx⟩
       ·
        have h6 : ((x.path.parts[k].hops.length : Int) == 0) = true := by rw [beq_iff_eq]; omega
        have HE := Lib.hid (show validPkt x = false by rw [HVP.out, partsFull_no hlt h5]; simp)
        try clear cf3
        have cf5 := blk10 (Ext.block (hz2.t hx) HB0.out)
        go_wp2_with fail
        go_ret
        exact ⟨ret_bool HE.out.symm, ((hx0.t hz2).t hx)⟩
      ·
       obtain rfl : k = x.path.parts.length := by omega
       have HPF : Hid (partsFull x.path.parts = true) := by have h := HK.out; rw [List.take_length] at h; exact Lib.hid h
       obtain ⟨p0, p1, p2⟩ := hasHop_at b3; have hcp := curPart_at p2; have HCH := Lib.hid (show hasHop x = inR x.hi 0 (((curPart x).hops.length : Int) - 1) by unfold hasHop; rw [b3]; rfl); obtain ⟨b, off, oh, ch, rfl, hc, hr⟩ := Part.at (r0.ext ((hx0.t hz2).t hx)) x.pi.toNat p2; rw [← hcp] at hc hr; clear hcp; obtain ⟨oh', ch', eh, hhl⟩ := hr.shape; have hhl2 : (curPart x).hops.length ≤ 9223372036854775807 := hhl; clear eh hhl; have hw2 : IntKind.i64.wrap (((curPart x).hops.length : Int) - 1) = ((curPart x).hops.length : Int) - 1 := IntWalk.i64_in _ (by omega); have HPT := Lib.hid (show pktTail x = (inR x.src 0 7 && inR x.dst 0 7 && inR x.rid 0 100000 && inR x.seq 0 100000 && decide (x.pay.length ≤ 40)) from rfl)
       cases c0 : inR x.hi 0 (((curPart x).hops.length : Int) - 1)
       ·
        have HE := Lib.hid (show validPkt x = false by rw [HVP.out, HCH.out, HPT.out]; simp [c0])
        try clear cf3
        have cf6 := blk10 (Ext.block (hz2.t hx) HB0.out)
        go_wp2_with fail
        refine wp_region_ext (by kernel_rfl) (by kernel_rfl) ?_; have q0 := ExtW.cell (cf6.1); have q1 := ExtW.cell (cf6.2.1); have q2 := ExtW.cell (cf6.2.2.1); have q3 := ExtW.cell (cf6.2.2.2.1); have q4 := ExtW.cell (cf6.2.2.2.2.1); have q5 := ExtW.cell (cf6.2.2.2.2.2.1); have q6 := ExtW.cell (cf6.2.2.2.2.2.2.1); have q7 := ExtW.cell (cf6.2.2.2.2.2.2.2.1); have q8 := ExtW.cell (cf6.2.2.2.2.2.2.2.2.1); have q9 := ExtW.cell (cf6.2.2.2.2.2.2.2.2.2); have q10 := ExtW.cell (hc.1); have q11 := ExtW.cell (hc.2.1); have q12 := ExtW.cell (hc.2.2.1); have q13 := ExtW.cell (hc.2.2.2)
        repeat (first | go_big_quiet_step (((first | (go_at_call 103; exact Calls.ext_same (s_l1In _ _ _ _))))) | quiet_step (((first | (go_at_call 103; exact Calls.ext_same (s_l1In _ _ _ _))))))
        refine wpQuiet_nil ?_; intro w5 hw5; have hz5 := ExtW.out hw5; clear hw5 q0 q1 q2 q3 q4 q5 q6 q7 q8 q9 q10 q11 q12 q13; clear hw2
        try clear cf6
        have cf7 := blk10 (Ext.block ((hz2.t hx).t hz5) HB0.out); have cf8 := Part.at_ext hz5 hc
        go_wp2_with fail
        go_ret
        exact ⟨ret_bool HE.out.symm, (((hx0.t hz2).t hx).t hz5)⟩
       ·
        cases c1 : inR x.src 0 7
        ·
         have HE := Lib.hid (show validPkt x = false by rw [HVP.out, HCH.out, HPT.out]; simp [c1])
         try clear cf3
         have cf9 := blk10 (Ext.block (hz2.t hx) HB0.out)
         go_wp2_with fail
         refine wp_region_ext (by kernel_rfl) (by kernel_rfl) ?_; have q0 := ExtW.cell (cf9.1); have q1 := ExtW.cell (cf9.2.1); have q2 := ExtW.cell (cf9.2.2.1); have q3 := ExtW.cell (cf9.2.2.2.1); have q4 := ExtW.cell (cf9.2.2.2.2.1); have q5 := ExtW.cell (cf9.2.2.2.2.2.1); have q6 := ExtW.cell (cf9.2.2.2.2.2.2.1); have q7 := ExtW.cell (cf9.2.2.2.2.2.2.2.1); have q8 := ExtW.cell (cf9.2.2.2.2.2.2.2.2.1); have q9 := ExtW.cell (cf9.2.2.2.2.2.2.2.2.2); have q10 := ExtW.cell (hc.1); have q11 := ExtW.cell (hc.2.1); have q12 := ExtW.cell (hc.2.2.1); have q13 := ExtW.cell (hc.2.2.2)
         repeat (first | go_big_quiet_step (((first | (go_at_call 103; exact Calls.ext_same (s_l1In _ _ _ _))))) | quiet_step (((first | (go_at_call 103; exact Calls.ext_same (s_l1In _ _ _ _))))))
         refine wpQuiet_nil ?_; intro w6 hw6; have hz6 := ExtW.out hw6; clear hw6 q0 q1 q2 q3 q4 q5 q6 q7 q8 q9 q10 q11 q12 q13; clear hw2
         try clear cf9
         have cf10 := blk10 (Ext.block ((hz2.t hx).t hz6) HB0.out); have cf11 := Part.at_ext hz6 hc
         go_wp2_with fail
         go_ret
         exact ⟨ret_bool HE.out.symm, (((hx0.t hz2).t hx).t hz6)⟩
        ·
         cases c2 : inR x.dst 0 7
         ·
          have HE := Lib.hid (show validPkt x = false by rw [HVP.out, HCH.out, HPT.out]; simp [c2])
          try clear cf3
          have cf12 := blk10 (Ext.block (hz2.t hx) HB0.out)
          go_wp2_with fail
          refine wp_region_ext (by kernel_rfl) (by kernel_rfl) ?_; have q0 := ExtW.cell (cf12.1); have q1 := ExtW.cell (cf12.2.1); have q2 := ExtW.cell (cf12.2.2.1); have q3 := ExtW.cell (cf12.2.2.2.1); have q4 := ExtW.cell (cf12.2.2.2.2.1); have q5 := ExtW.cell (cf12.2.2.2.2.2.1); have q6 := ExtW.cell (cf12.2.2.2.2.2.2.1); have q7 := ExtW.cell (cf12.2.2.2.2.2.2.2.1); have q8 := ExtW.cell (cf12.2.2.2.2.2.2.2.2.1); have q9 := ExtW.cell (cf12.2.2.2.2.2.2.2.2.2); have q10 := ExtW.cell (hc.1); have q11 := ExtW.cell (hc.2.1); have q12 := ExtW.cell (hc.2.2.1); have q13 := ExtW.cell (hc.2.2.2)
          repeat (first | go_big_quiet_step (((first | (go_at_call 103; exact Calls.ext_same (s_l1In _ _ _ _))))) | quiet_step (((first | (go_at_call 103; exact Calls.ext_same (s_l1In _ _ _ _))))))
          refine wpQuiet_nil ?_; intro w7 hw7; have hz7 := ExtW.out hw7; clear hw7 q0 q1 q2 q3 q4 q5 q6 q7 q8 q9 q10 q11 q12 q13; clear hw2
          try clear cf12
          have cf13 := blk10 (Ext.block ((hz2.t hx).t hz7) HB0.out); have cf14 := Part.at_ext hz7 hc
          go_wp2_with fail
          go_ret
          exact ⟨ret_bool HE.out.symm, (((hx0.t hz2).t hx).t hz7)⟩
         ·
          cases c3 : inR x.rid 0 100000
          ·
           have HE := Lib.hid (show validPkt x = false by rw [HVP.out, HCH.out, HPT.out]; simp [c3])
           try clear cf3
           have cf15 := blk10 (Ext.block (hz2.t hx) HB0.out)
           go_wp2_with fail
           refine wp_region_ext (by kernel_rfl) (by kernel_rfl) ?_; have q0 := ExtW.cell (cf15.1); have q1 := ExtW.cell (cf15.2.1); have q2 := ExtW.cell (cf15.2.2.1); have q3 := ExtW.cell (cf15.2.2.2.1); have q4 := ExtW.cell (cf15.2.2.2.2.1); have q5 := ExtW.cell (cf15.2.2.2.2.2.1); have q6 := ExtW.cell (cf15.2.2.2.2.2.2.1); have q7 := ExtW.cell (cf15.2.2.2.2.2.2.2.1); have q8 := ExtW.cell (cf15.2.2.2.2.2.2.2.2.1); have q9 := ExtW.cell (cf15.2.2.2.2.2.2.2.2.2); have q10 := ExtW.cell (hc.1); have q11 := ExtW.cell (hc.2.1); have q12 := ExtW.cell (hc.2.2.1); have q13 := ExtW.cell (hc.2.2.2)
           repeat (first | go_big_quiet_step (((first | (go_at_call 103; exact Calls.ext_same (s_l1In _ _ _ _))))) | quiet_step (((first | (go_at_call 103; exact Calls.ext_same (s_l1In _ _ _ _))))))
           refine wpQuiet_nil ?_; intro w8 hw8; have hz8 := ExtW.out hw8; clear hw8 q0 q1 q2 q3 q4 q5 q6 q7 q8 q9 q10 q11 q12 q13; clear hw2
           try clear cf15
           have cf16 := blk10 (Ext.block ((hz2.t hx).t hz8) HB0.out); have cf17 := Part.at_ext hz8 hc
           go_wp2_with fail
           go_ret
           exact ⟨ret_bool HE.out.symm, (((hx0.t hz2).t hx).t hz8)⟩
          ·
           cases c4 : inR x.seq 0 100000
           ·
            have HE := Lib.hid (show validPkt x = false by rw [HVP.out, HCH.out, HPT.out]; simp [c4])
            try clear cf3
            have cf18 := blk10 (Ext.block (hz2.t hx) HB0.out)
            go_wp2_with fail
            refine wp_region_ext (by kernel_rfl) (by kernel_rfl) ?_; have q0 := ExtW.cell (cf18.1); have q1 := ExtW.cell (cf18.2.1); have q2 := ExtW.cell (cf18.2.2.1); have q3 := ExtW.cell (cf18.2.2.2.1); have q4 := ExtW.cell (cf18.2.2.2.2.1); have q5 := ExtW.cell (cf18.2.2.2.2.2.1); have q6 := ExtW.cell (cf18.2.2.2.2.2.2.1); have q7 := ExtW.cell (cf18.2.2.2.2.2.2.2.1); have q8 := ExtW.cell (cf18.2.2.2.2.2.2.2.2.1); have q9 := ExtW.cell (cf18.2.2.2.2.2.2.2.2.2); have q10 := ExtW.cell (hc.1); have q11 := ExtW.cell (hc.2.1); have q12 := ExtW.cell (hc.2.2.1); have q13 := ExtW.cell (hc.2.2.2)
            repeat (first | go_big_quiet_step (((first | (go_at_call 103; exact Calls.ext_same (s_l1In _ _ _ _))))) | quiet_step (((first | (go_at_call 103; exact Calls.ext_same (s_l1In _ _ _ _))))))
            refine wpQuiet_nil ?_; intro w9 hw9; have hz9 := ExtW.out hw9; clear hw9 q0 q1 q2 q3 q4 q5 q6 q7 q8 q9 q10 q11 q12 q13; clear hw2
            try clear cf18
            have cf19 := blk10 (Ext.block ((hz2.t hx).t hz9) HB0.out); have cf20 := Part.at_ext hz9 hc
            go_wp2_with fail
            go_ret
            exact ⟨ret_bool HE.out.symm, (((hx0.t hz2).t hx).t hz9)⟩
           ·
            by_cases c5 : x.pay.length ≤ 40
            ·
             have c6 : decide ((x.pay.length : Int) ≤ 40) = true := decide_eq_true (by omega); have HE := Lib.hid (show validPkt x = true by rw [HVP.out, HCH.out, HPT.out, b1, b2, b4, HPF.out, c0, c1, c2, c3, c4, decide_eq_true c5]; rfl)
             try clear cf3
             have cf21 := blk10 (Ext.block (hz2.t hx) HB0.out)
             go_wp2_with fail
             refine wp_region_ext (by kernel_rfl) (by kernel_rfl) ?_; have q0 := ExtW.cell (cf21.1); have q1 := ExtW.cell (cf21.2.1); have q2 := ExtW.cell (cf21.2.2.1); have q3 := ExtW.cell (cf21.2.2.2.1); have q4 := ExtW.cell (cf21.2.2.2.2.1); have q5 := ExtW.cell (cf21.2.2.2.2.2.1); have q6 := ExtW.cell (cf21.2.2.2.2.2.2.1); have q7 := ExtW.cell (cf21.2.2.2.2.2.2.2.1); have q8 := ExtW.cell (cf21.2.2.2.2.2.2.2.2.1); have q9 := ExtW.cell (cf21.2.2.2.2.2.2.2.2.2); have q10 := ExtW.cell (hc.1); have q11 := ExtW.cell (hc.2.1); have q12 := ExtW.cell (hc.2.2.1); have q13 := ExtW.cell (hc.2.2.2)
             repeat (first | go_big_quiet_step (((first | (go_at_call 103; exact Calls.ext_same (s_l1In _ _ _ _))))) | quiet_step (((first | (go_at_call 103; exact Calls.ext_same (s_l1In _ _ _ _))))))
             refine wpQuiet_nil ?_; intro w10 hw10; have hz10 := ExtW.out hw10; clear hw10 q0 q1 q2 q3 q4 q5 q6 q7 q8 q9 q10 q11 q12 q13; clear hw2
             try clear cf21
             have cf22 := blk10 (Ext.block ((hz2.t hx).t hz10) HB0.out); have cf23 := Part.at_ext hz10 hc
             go_wp2_with fail
             go_ret
             exact ⟨ret_bool (by rw [HE.out]), (((hx0.t hz2).t hx).t hz10)⟩
            ·
             have c6 : decide ((x.pay.length : Int) ≤ 40) = false := decide_eq_false (by omega); have HE := Lib.hid (show validPkt x = false by rw [HVP.out, HCH.out, HPT.out, decide_eq_false c5]; simp)
             try clear cf3
             have cf24 := blk10 (Ext.block (hz2.t hx) HB0.out)
             go_wp2_with fail
             refine wp_region_ext (by kernel_rfl) (by kernel_rfl) ?_; have q0 := ExtW.cell (cf24.1); have q1 := ExtW.cell (cf24.2.1); have q2 := ExtW.cell (cf24.2.2.1); have q3 := ExtW.cell (cf24.2.2.2.1); have q4 := ExtW.cell (cf24.2.2.2.2.1); have q5 := ExtW.cell (cf24.2.2.2.2.2.1); have q6 := ExtW.cell (cf24.2.2.2.2.2.2.1); have q7 := ExtW.cell (cf24.2.2.2.2.2.2.2.1); have q8 := ExtW.cell (cf24.2.2.2.2.2.2.2.2.1); have q9 := ExtW.cell (cf24.2.2.2.2.2.2.2.2.2); have q10 := ExtW.cell (hc.1); have q11 := ExtW.cell (hc.2.1); have q12 := ExtW.cell (hc.2.2.1); have q13 := ExtW.cell (hc.2.2.2)
             repeat (first | go_big_quiet_step (((first | (go_at_call 103; exact Calls.ext_same (s_l1In _ _ _ _))))) | quiet_step (((first | (go_at_call 103; exact Calls.ext_same (s_l1In _ _ _ _))))))
             refine wpQuiet_nil ?_; intro w11 hw11; have hz11 := ExtW.out hw11; clear hw11 q0 q1 q2 q3 q4 q5 q6 q7 q8 q9 q10 q11 q12 q13; clear hw2
             try clear cf24
             have cf25 := blk10 (Ext.block ((hz2.t hx).t hz11) HB0.out); have cf26 := Part.at_ext hz11 hc
             go_wp2_with fail
             go_ret
             exact ⟨ret_bool (by rw [HE.out]), (((hx0.t hz2).t hx).t hz11)⟩
end
end Go.Proofs.YtcpfmhgfaliemaaGreat
