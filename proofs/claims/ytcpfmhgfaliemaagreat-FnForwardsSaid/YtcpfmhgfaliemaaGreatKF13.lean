/- What these laws need: FnForwards: Contracts of the tests of whole paths: order of parts, interfaces, codes, expiry, program and reference. Contracts of simple, verified and usable paths, program and reference. Texts of numbers, ASes, steps and verdicts, as rows of bytes. The names of verdicts, program and reference. -/
import Derived.Laws.BytesArg
import Derived.Test.YtcpfmhgfaliemaaGreatKF12
namespace Go.Proofs.YtcpfmhgfaliemaaGreat
section
open Go.ChangeShapes Go.WideShapes Go.ChangeAt Go.RowKit Go.Deep
theorem followAt_of {l : List Part} {j k : Nat} (hj : k = j + 1) (hjl : j < l.length) (h : k < l.length) (h1 : l[j].hops.length - 1 < l[j].hops.length) (h2 : 0 < l[k].hops.length) :
  followAt l j = (decide (rank l[j].kind < rank l[k].kind) && (l[j].hops[l[j].hops.length - 1].asn == l[k].hops[0].asn)) := by
 subst hj; unfold followAt; rw [partAt_at hjl, partAt_at h, hopAt_at h1, hopAt_at h2]
theorem wf_no {t : Topo} {p : Pth} {k : Nat} (hk : k < p.parts.length) (h : partOk t p.parts k = false) : wfPath t p = false := by unfold wfPath; rw [allTo_no hk h]; simp
theorem partOk_valid {t : Topo} {l : List Part} {k : Nat} (h : allTo (partOk t l) k = true) {j : Nat} (hj : j < k) (hl : j < l.length) : validPart t l[j] = true := by
 have := allTo_true.1 h j hj; unfold partOk at this; rw [partAt_at hl] at this; simp only [Bool.and_eq_true] at this; exact this.1
theorem hop0_ext {w w' : World} {b off : Nat} {v0 v1 v2 v3 v4 : Value} (x : Ext w w') (h : w.cell? ⟨b, off, none⟩ = some v0 ∧ w.cell? ⟨b, off + 1, none⟩ = some v1 ∧ w.cell? ⟨b, off + 2, none⟩ = some v2 ∧ w.cell? ⟨b, off + 3, none⟩ = some v3 ∧ w.cell? ⟨b, off + 4, none⟩ = some v4) :
  w'.cell? ⟨b, off, none⟩ = some v0 ∧ w'.cell? ⟨b, off + 1, none⟩ = some v1 ∧ w'.cell? ⟨b, off + 2, none⟩ = some v2 ∧ w'.cell? ⟨b, off + 3, none⟩ = some v3 ∧ w'.cell? ⟨b, off + 4, none⟩ = some v4 :=
 ⟨x.cell h.1, x.cell h.2.1, x.cell h.2.2.1, x.cell h.2.2.2.1, x.cell h.2.2.2.2⟩
set_option maxHeartbeats 400000 in
theorem i_placeOf (k : Int) (w : World) :
  Calls Tryz.prog 198 #[.int .i64 k] w fun e w' => e = .returned (.int .i64 (rank k)) ∧ w = w' := by
 go_enter Tryz.func198, Tryz.ntmps198

 cases b1 : (k == 1) <;> cases b2 : (k == 2) <;> cases b3 : (k == 3)
 all_goals
  go_wp2
  go_ret
  exact ⟨ret_int (by unfold rank; rw [b1, b2, b3]; rfl), rfl⟩
set_option maxHeartbeats 400000 in
theorem s_l22Rank (k : Int) (w : World) :
  Calls Tryz.prog 225 #[.int .i64 k] w fun e w' => e = .returned (.int .i64 (rank k)) ∧ w = w' := by
 go_enter Tryz.func225, Tryz.ntmps225

 cases b1 : (k == 1) <;> cases b2 : (k == 2) <;> cases b3 : (k == 3)
 all_goals
  go_wp2
  go_ret
  exact ⟨ret_int (by unfold rank; rw [b1, b2, b3]; rfl), rfl⟩
set_option maxRecDepth 100000 in
set_option maxHeartbeats 8000000 in
theorem i_WellFormedPath (t : Topo) (v1 v2 : Value) (p : Pth) (v : Value) (w : World) (ha : RdS ASd.rep w v1 t.ases) (hk : RdS Lnk.rep w v2 t.links) (r : RdS Part.rep w v p.parts) :
  Calls Tryz.prog 127 #[.agg #[v1, v2], .agg #[v]] w fun e w' => e = .returned (.bool (wfPath t p)) ∧ Ext w w' := by
 obtain ⟨o, cap, rfl, hsm⟩ := r.shape; have hx0 := ext2 w (.cells #[v1, v2] 56) (.cells #[.slice o p.parts.length cap] 35); have HB0 := Lib.hid (al2 w (.cells #[v1, v2] 56) (.cells #[.slice o p.parts.length cap] 35))
 go_enter Tryz.func127, Tryz.ntmps127
 have cf1 := blk2 HB0.out.1; have cf2 := blk1 HB0.out.2
 go_wp2_with fail
 refine (i_InRange _ _ _ _).mono ?_; rintro e _ ⟨rfl, rfl⟩
 cases bb : inR (p.parts.length : Int) 1 3
 ·
  have HE := Lib.hid (show wfPath t p = false by unfold wfPath; rw [bb]; rfl)
  go_wp2_with fail
  go_ret
  exact ⟨ret_bool HE.out.symm, hx0⟩
 ·
  have HL := Lib.hid (show wfPath t p = allTo (partOk t p.parts) p.parts.length by unfold wfPath; rw [bb]; rfl); clear bb
  obtain ⟨W0, hW0⟩ : ∃ W0 : World, W0 = (w.alloc (.cells #[v1, v2] 56)).alloc (.cells #[.slice o p.parts.length cap] 35) := ⟨_, rfl⟩
  rw [← hW0] at hx0 HB0
  go_wp2_with fail
  rw [← hW0]; clear hW0
  go_loopg [16] p.parts.length (fun gk i wr => ∃ k : Nat, gk + k = p.parts.length ∧ i = .int .i64 k ∧ Hid (allTo (partOk t p.parts) k = true) ∧ Ext W0 wr)
  case atStart => exact ⟨0, rfl, rfl, Lib.hid rfl, Ext.refl _⟩
  case round =>
   obtain ⟨k, hgk, rfl, HK, hx⟩ := hrel
   by_cases hlt : k < p.parts.length
   ·
    have HG := Lib.hid (show gk - 1 + (k + 1) = p.parts.length ∧ gk - 1 < gk by omega); clear hgk; have HAT := Lib.hid (partAt_at hlt); obtain ⟨b, off, oh, ch, rfl, hc, hr⟩ := Part.at (r.ext (hx0.t hx)) k hlt; have h4 : (k : Int) < (p.parts.length : Int) := by omega
    try clear cf1
    try clear cf2
    have cf3 := blk2 (Ext.block hx HB0.out.1); have cf4 := blk1 (Ext.block hx HB0.out.2); have hx1 : Ext wr (wr.alloc (.cells #[.int .i64 p.parts[k].kind, .int .i64 p.parts[k].ts, .int .i64 p.parts[k].beta, .slice oh p.parts[k].hops.length ch] 74)) := (Ext.refl _).alloc _; have HB1 := Lib.hid (blk_new wr (.cells #[.int .i64 p.parts[k].kind, .int .i64 p.parts[k].ts, .int .i64 p.parts[k].beta, .slice oh p.parts[k].hops.length ch] 74)); have cf5 := blk2 (Ext.block (hx.t hx1) HB0.out.1); have cf6 := blk1 (Ext.block (hx.t hx1) HB0.out.2); have cf7 := blk4 HB1.out; have cf8 := Part.at_ext hx1 hc
    go_wp2_with fail
    refine (i_ValidPart t _ _ p.parts[k] _ _ (ha.ext ((hx0.t hx).t hx1)) (hk.ext ((hx0.t hx).t hx1)) (hr.ext hx1)).mono ?_; rintro e w1 ⟨rfl, hz1⟩
    cases b1 : validPart t p.parts[k]
    ·
     have HE := Lib.hid (wf_no (t := t) hlt (show partOk t p.parts k = false by unfold partOk; rw [HAT.out, b1]; rfl))
     try clear cf5
     try clear cf6
     try clear cf7
     try clear cf8
     have cf9 := blk2 (Ext.block ((hx.t hx1).t hz1) HB0.out.1); have cf10 := blk1 (Ext.block ((hx.t hx1).t hz1) HB0.out.2); have cf11 := blk4 (Ext.block hz1 HB1.out); have cf12 := Part.at_ext (hx1.t hz1) hc
     go_wp2_with fail
     go_ret
     exact ⟨ret_bool HE.out.symm, (((hx0.t hx).t hx1).t hz1)⟩
    ·
     have hl1 := validPart_len b1
     rcases Nat.eq_zero_or_pos k with rfl | hk0
     ·
      have HK2 : Hid (allTo (partOk t p.parts) (0 + 1) = true) := Lib.hid (allTo_snoc rfl (show partOk t p.parts 0 = true by unfold partOk; rw [HAT.out, b1]; rfl))
      try clear cf5
      try clear cf6
      try clear cf7
      try clear cf8
      have cf13 := blk2 (Ext.block ((hx.t hx1).t hz1) HB0.out.1); have cf14 := blk1 (Ext.block ((hx.t hx1).t hz1) HB0.out.2); have cf15 := blk4 (Ext.block hz1 HB1.out); have cf16 := Part.at_ext (hx1.t hz1) hc
      go_wp2_with fail
      go_roundg (gk - 1)
      case measure => exact HG.out.2
      case rel => exact ⟨0 + 1, HG.out.1, by go_num, HK2, ((hx.t hx1).t hz1)⟩
     ·
      obtain ⟨j, hj⟩ : ∃ j, k = j + 1 := ⟨k - 1, by omega⟩
      have hjl : j < p.parts.length := by omega
      have hvj := partOk_valid HK.out (show j < k by omega) hjl; have hl2 := validPart_len hvj; have HJJ := Lib.hid hj; have hk1 : (0 : Int) < (k : Int) := by omega
      have hw2 : (k : Int) - 1 = (j : Int) := by omega
      obtain ⟨bj, offj, ohj, chj, ej, hd, hrj⟩ := Part.at (r.ext (((hx0.t hx).t hx1).t hz1)) j hjl
      cases ej
      have h7 : (j : Int) < (p.parts.length : Int) := by omega
      have h8 : (0 : Int) ≤ (j : Int) := by omega
      have hl3 : p.parts[j].hops.length - 1 < p.parts[j].hops.length := by omega
      have hl4 : 0 < p.parts[k].hops.length := by omega
      have HF := Lib.hid (followAt_of hj hjl hlt hl3 hl4); have hwl : IntKind.i64.wrap ((p.parts[j].hops.length : Int) - 1) = ((p.parts[j].hops.length - 1 : Nat) : Int) := by rw [IntWalk.i64_in _ (by omega)]; omega
      have hl5 : ((p.parts[j].hops.length - 1 : Nat) : Int) < (p.parts[j].hops.length : Int) := by omega
      have hl6 : (0 : Int) ≤ ((p.parts[j].hops.length - 1 : Nat) : Int) := by omega
      have hl7 : (0 : Int) < (p.parts[k].hops.length : Int) := by omega
      clear hj hvj; obtain ⟨b3, off3, e3, ht3⟩ := Hop.at hrj (p.parts[j].hops.length - 1) hl3; obtain ⟨b4, off4, e4, ht4⟩ := Hop.at (hr.ext (hx1.t hz1)) 0 hl4
      cases e3
      cases e4
      simp only [Nat.zero_mul, Nat.add_zero] at ht4
      try clear cf5
      try clear cf6
      try clear cf7
      try clear cf8
      have cf17 := blk2 (Ext.block ((hx.t hx1).t hz1) HB0.out.1); have cf18 := blk1 (Ext.block ((hx.t hx1).t hz1) HB0.out.2); have cf19 := blk4 (Ext.block hz1 HB1.out); have cf20 := Part.at_ext (hx1.t hz1) hc; generalize hlst : p.parts[j].hops.length - 1 = lst at *; have HLST := Lib.hid hlst; clear hlst; have hx2 : Ext w1 (w1.alloc (.cells #[.int .i64 p.parts[j].kind, .int .i64 p.parts[j].ts, .int .i64 p.parts[j].beta, .slice (some ⟨b3, off3, none⟩) p.parts[j].hops.length chj] 74)) := (Ext.refl _).alloc _; have HB2 := Lib.hid (blk_new w1 (.cells #[.int .i64 p.parts[j].kind, .int .i64 p.parts[j].ts, .int .i64 p.parts[j].beta, .slice (some ⟨b3, off3, none⟩) p.parts[j].hops.length chj] 74))
      go_wp2_with fail
      clear hw2
      by_cases hge : rank p.parts[k].kind ≤ rank p.parts[j].kind
      ·
       have hge2 : decide (rank p.parts[k].kind ≤ rank p.parts[j].kind) = true := decide_eq_true hge; have cf21 := blk2 (Ext.block (((hx.t hx1).t hz1).t hx2) HB0.out.1); have cf22 := blk1 (Ext.block (((hx.t hx1).t hz1).t hx2) HB0.out.2); have cf23 := blk4 (Ext.block (hz1.t hx2) HB1.out); have cf24 := blk4 HB2.out; have cf25 := Part.at_ext ((hx1.t hz1).t hx2) hc; have cf26 := Part.at_ext hx2 hd; have cf27 := Hop.at_ext hx2 ht3; have cf28 := hop0_ext hx2 ht4
       go_wp2_with fail
       refine wp_region_ext (by kernel_rfl) (by kernel_rfl) ?_; have q0 := ExtW.cell (cf21.1); have q1 := ExtW.cell (cf21.2); have q2 := ExtW.cell (cf22); have q3 := ExtW.cell (cf23.1); have q4 := ExtW.cell (cf23.2.1); have q5 := ExtW.cell (cf23.2.2.1); have q6 := ExtW.cell (cf23.2.2.2); have q7 := ExtW.cell (cf24.1); have q8 := ExtW.cell (cf24.2.1); have q9 := ExtW.cell (cf24.2.2.1); have q10 := ExtW.cell (cf24.2.2.2); have q11 := ExtW.cell (cf25.1); have q12 := ExtW.cell (cf25.2.1); have q13 := ExtW.cell (cf25.2.2.1); have q14 := ExtW.cell (cf25.2.2.2); have q15 := ExtW.cell (cf26.1); have q16 := ExtW.cell (cf26.2.1); have q17 := ExtW.cell (cf26.2.2.1); have q18 := ExtW.cell (cf26.2.2.2); have q19 := ExtW.cell (cf27.1); have q20 := ExtW.cell (cf27.2.1); have q21 := ExtW.cell (cf27.2.2.1); have q22 := ExtW.cell (cf27.2.2.2.1); have q23 := ExtW.cell (cf27.2.2.2.2); have q24 := ExtW.cell (cf28.1); have q25 := ExtW.cell (cf28.2.1); have q26 := ExtW.cell (cf28.2.2.1); have q27 := ExtW.cell (cf28.2.2.2.1); have q28 := ExtW.cell (cf28.2.2.2.2)
       repeat (first | go_big_quiet_step (((first | (go_at_call 198; exact Calls.ext_same (i_placeOf _ _))))) | quiet_step (((first | (go_at_call 198; exact Calls.ext_same (i_placeOf _ _))))))
       refine wpQuiet_nil ?_; intro w2 hw2; have hz2 := ExtW.out hw2; clear hw2 q0 q1 q2 q3 q4 q5 q6 q7 q8 q9 q10 q11 q12 q13 q14 q15 q16 q17 q18 q19 q20 q21 q22 q23 q24 q25 q26 q27 q28; have HE := Lib.hid (wf_no (t := t) hlt (show partOk t p.parts k = false by unfold partOk; rw [show k - 1 = j by rw [HJJ.out]; rfl, HF.out, decide_eq_false (by omega)]; simp; omega))
       try clear cf21
       try clear cf22
       try clear cf23
       try clear cf24
       try clear cf25
       try clear cf26
       try clear cf27
       try clear cf28
       have cf29 := blk2 (Ext.block ((((hx.t hx1).t hz1).t hx2).t hz2) HB0.out.1); have cf30 := blk1 (Ext.block ((((hx.t hx1).t hz1).t hx2).t hz2) HB0.out.2); have cf31 := blk4 (Ext.block ((hz1.t hx2).t hz2) HB1.out); have cf32 := blk4 (Ext.block hz2 HB2.out); have cf33 := Part.at_ext (((hx1.t hz1).t hx2).t hz2) hc; have cf34 := Part.at_ext (hx2.t hz2) hd; have cf35 := Hop.at_ext (hx2.t hz2) ht3; have cf36 := hop0_ext (hx2.t hz2) ht4
       go_wp2_with fail
       go_ret
       exact ⟨ret_bool HE.out.symm, (((((hx0.t hx).t hx1).t hz1).t hx2).t hz2)⟩
      ·
       have hge2 : decide (rank p.parts[k].kind ≤ rank p.parts[j].kind) = false := decide_eq_false hge
       cases b5 : (p.parts[j].hops[lst].asn == p.parts[k].hops[0].asn)
       ·
        have b5' : (p.parts[j].hops[lst].asn != p.parts[k].hops[0].asn) = true := by simp only [bne, b5]; rfl
        have cf37 := blk2 (Ext.block (((hx.t hx1).t hz1).t hx2) HB0.out.1); have cf38 := blk1 (Ext.block (((hx.t hx1).t hz1).t hx2) HB0.out.2); have cf39 := blk4 (Ext.block (hz1.t hx2) HB1.out); have cf40 := blk4 HB2.out; have cf41 := Part.at_ext ((hx1.t hz1).t hx2) hc; have cf42 := Part.at_ext hx2 hd; have cf43 := Hop.at_ext hx2 ht3; have cf44 := hop0_ext hx2 ht4
        go_wp2_with fail
        refine wp_region_ext (by kernel_rfl) (by kernel_rfl) ?_; have q0 := ExtW.cell (cf37.1); have q1 := ExtW.cell (cf37.2); have q2 := ExtW.cell (cf38); have q3 := ExtW.cell (cf39.1); have q4 := ExtW.cell (cf39.2.1); have q5 := ExtW.cell (cf39.2.2.1); have q6 := ExtW.cell (cf39.2.2.2); have q7 := ExtW.cell (cf40.1); have q8 := ExtW.cell (cf40.2.1); have q9 := ExtW.cell (cf40.2.2.1); have q10 := ExtW.cell (cf40.2.2.2); have q11 := ExtW.cell (cf41.1); have q12 := ExtW.cell (cf41.2.1); have q13 := ExtW.cell (cf41.2.2.1); have q14 := ExtW.cell (cf41.2.2.2); have q15 := ExtW.cell (cf42.1); have q16 := ExtW.cell (cf42.2.1); have q17 := ExtW.cell (cf42.2.2.1); have q18 := ExtW.cell (cf42.2.2.2); have q19 := ExtW.cell (cf43.1); have q20 := ExtW.cell (cf43.2.1); have q21 := ExtW.cell (cf43.2.2.1); have q22 := ExtW.cell (cf43.2.2.2.1); have q23 := ExtW.cell (cf43.2.2.2.2); have q24 := ExtW.cell (cf44.1); have q25 := ExtW.cell (cf44.2.1); have q26 := ExtW.cell (cf44.2.2.1); have q27 := ExtW.cell (cf44.2.2.2.1); have q28 := ExtW.cell (cf44.2.2.2.2)
        repeat (first | go_big_quiet_step (((first | (go_at_call 198; exact Calls.ext_same (i_placeOf _ _))))) | quiet_step (((first | (go_at_call 198; exact Calls.ext_same (i_placeOf _ _))))))
        refine wpQuiet_nil ?_; intro w3 hw3; have hz3 := ExtW.out hw3; clear hw3 q0 q1 q2 q3 q4 q5 q6 q7 q8 q9 q10 q11 q12 q13 q14 q15 q16 q17 q18 q19 q20 q21 q22 q23 q24 q25 q26 q27 q28; have HE := Lib.hid (wf_no (t := t) hlt (show partOk t p.parts k = false by unfold partOk; rw [show k - 1 = j by rw [HJJ.out]; rfl, HF.out]; simp only [b5]; simp; omega))
        try clear cf37
        try clear cf38
        try clear cf39
        try clear cf40
        try clear cf41
        try clear cf42
        try clear cf43
        try clear cf44
        have cf45 := blk2 (Ext.block ((((hx.t hx1).t hz1).t hx2).t hz3) HB0.out.1); have cf46 := blk1 (Ext.block ((((hx.t hx1).t hz1).t hx2).t hz3) HB0.out.2); have cf47 := blk4 (Ext.block ((hz1.t hx2).t hz3) HB1.out); have cf48 := blk4 (Ext.block hz3 HB2.out); have cf49 := Part.at_ext (((hx1.t hz1).t hx2).t hz3) hc; have cf50 := Part.at_ext (hx2.t hz3) hd; have cf51 := Hop.at_ext (hx2.t hz3) ht3; have cf52 := hop0_ext (hx2.t hz3) ht4
        go_wp2_with fail
        go_ret
        exact ⟨ret_bool HE.out.symm, (((((hx0.t hx).t hx1).t hz1).t hx2).t hz3)⟩
       ·
        have b5' : (p.parts[j].hops[lst].asn != p.parts[k].hops[0].asn) = false := by simp only [bne, b5]; rfl
        have cf53 := blk2 (Ext.block (((hx.t hx1).t hz1).t hx2) HB0.out.1); have cf54 := blk1 (Ext.block (((hx.t hx1).t hz1).t hx2) HB0.out.2); have cf55 := blk4 (Ext.block (hz1.t hx2) HB1.out); have cf56 := blk4 HB2.out; have cf57 := Part.at_ext ((hx1.t hz1).t hx2) hc; have cf58 := Part.at_ext hx2 hd; have cf59 := Hop.at_ext hx2 ht3; have cf60 := hop0_ext hx2 ht4
        go_wp2_with fail
        refine wp_region_ext (by kernel_rfl) (by kernel_rfl) ?_; have q0 := ExtW.cell (cf53.1); have q1 := ExtW.cell (cf53.2); have q2 := ExtW.cell (cf54); have q3 := ExtW.cell (cf55.1); have q4 := ExtW.cell (cf55.2.1); have q5 := ExtW.cell (cf55.2.2.1); have q6 := ExtW.cell (cf55.2.2.2); have q7 := ExtW.cell (cf56.1); have q8 := ExtW.cell (cf56.2.1); have q9 := ExtW.cell (cf56.2.2.1); have q10 := ExtW.cell (cf56.2.2.2); have q11 := ExtW.cell (cf57.1); have q12 := ExtW.cell (cf57.2.1); have q13 := ExtW.cell (cf57.2.2.1); have q14 := ExtW.cell (cf57.2.2.2); have q15 := ExtW.cell (cf58.1); have q16 := ExtW.cell (cf58.2.1); have q17 := ExtW.cell (cf58.2.2.1); have q18 := ExtW.cell (cf58.2.2.2); have q19 := ExtW.cell (cf59.1); have q20 := ExtW.cell (cf59.2.1); have q21 := ExtW.cell (cf59.2.2.1); have q22 := ExtW.cell (cf59.2.2.2.1); have q23 := ExtW.cell (cf59.2.2.2.2); have q24 := ExtW.cell (cf60.1); have q25 := ExtW.cell (cf60.2.1); have q26 := ExtW.cell (cf60.2.2.1); have q27 := ExtW.cell (cf60.2.2.2.1); have q28 := ExtW.cell (cf60.2.2.2.2)
        repeat (first | go_big_quiet_step (((first | (go_at_call 198; exact Calls.ext_same (i_placeOf _ _))))) | quiet_step (((first | (go_at_call 198; exact Calls.ext_same (i_placeOf _ _))))))
        refine wpQuiet_nil ?_; intro w4 hw4; have hz4 := ExtW.out hw4; clear hw4 q0 q1 q2 q3 q4 q5 q6 q7 q8 q9 q10 q11 q12 q13 q14 q15 q16 q17 q18 q19 q20 q21 q22 q23 q24 q25 q26 q27 q28; have HK2 := Lib.hid (allTo_snoc HK.out (show partOk t p.parts k = true by unfold partOk; rw [show k - 1 = j by rw [HJJ.out]; rfl, HAT.out, b1, HF.out]; simp only [b5, decide_eq_true (show rank p.parts[j].kind < rank p.parts[k].kind by omega)]; simp))
        try clear cf53
        try clear cf54
        try clear cf55
        try clear cf56
        try clear cf57
        try clear cf58
        try clear cf59
        try clear cf60
        have cf61 := blk2 (Ext.block ((((hx.t hx1).t hz1).t hx2).t hz4) HB0.out.1); have cf62 := blk1 (Ext.block ((((hx.t hx1).t hz1).t hx2).t hz4) HB0.out.2); have cf63 := blk4 (Ext.block ((hz1.t hx2).t hz4) HB1.out); have cf64 := blk4 (Ext.block hz4 HB2.out); have cf65 := Part.at_ext (((hx1.t hz1).t hx2).t hz4) hc; have cf66 := Part.at_ext (hx2.t hz4) hd; have cf67 := Hop.at_ext (hx2.t hz4) ht3; have cf68 := hop0_ext (hx2.t hz4) ht4
        go_wp2_with fail
        go_roundg (gk - 1)
        case measure => exact HG.out.2
        case rel => exact ⟨k + 1, HG.out.1, by go_num, HK2, ((((hx.t hx1).t hz1).t hx2).t hz4)⟩
   ·
    obtain rfl : k = p.parts.length := by omega
    have HE := Lib.hid (HL.out.trans HK.out)
    try clear cf1
    try clear cf2
    have cf69 := blk2 (Ext.block hx HB0.out.1); have cf70 := blk1 (Ext.block hx HB0.out.2)
    go_wp2_with fail
    go_ret
    exact ⟨ret_bool HE.out.symm, (hx0.t hx)⟩
set_option maxRecDepth 100000 in
set_option maxHeartbeats 8000000 in
theorem s_WellFormedPath (t : Topo) (v1 v2 : Value) (p : Pth) (v : Value) (w : World) (ha : RdS ASd.rep w v1 t.ases) (hk : RdS Lnk.rep w v2 t.links) (r : RdS Part.rep w v p.parts) :
  Calls Tryz.prog 183 #[.agg #[v1, v2], .agg #[v]] w fun e w' => e = .returned (.bool (wfPath t p)) ∧ Ext w w' := by
 obtain ⟨o, cap, rfl, hsm⟩ := r.shape; have hx0 := ext2 w (.cells #[v1, v2] 56) (.cells #[.slice o p.parts.length cap] 35); have HB0 := Lib.hid (al2 w (.cells #[v1, v2] 56) (.cells #[.slice o p.parts.length cap] 35))
 go_enter Tryz.func183, Tryz.ntmps183
 have cf1 := blk2 HB0.out.1; have cf2 := blk1 HB0.out.2
 go_wp2_with fail
 refine (s_l1In _ _ _ _).mono ?_; rintro e _ ⟨rfl, rfl⟩
 cases bb : inR (p.parts.length : Int) 1 3
 ·
  have HE := Lib.hid (show wfPath t p = false by unfold wfPath; rw [bb]; rfl)
  go_wp2_with fail
  go_ret
  exact ⟨ret_bool HE.out.symm, hx0⟩
 ·
  have HL := Lib.hid (show wfPath t p = allTo (partOk t p.parts) p.parts.length by unfold wfPath; rw [bb]; rfl); clear bb
  obtain ⟨W0, hW0⟩ : ∃ W0 : World, W0 = (w.alloc (.cells #[v1, v2] 56)).alloc (.cells #[.slice o p.parts.length cap] 35) := ⟨_, rfl⟩
  rw [← hW0] at hx0 HB0
  go_wp2_with fail
  rw [← hW0]; clear hW0
  go_loopg [5] p.parts.length (fun gk i wr => ∃ k : Nat, gk + k = p.parts.length ∧ i = .int .i64 k ∧ Hid (allTo (partOk t p.parts) k = true) ∧ Ext W0 wr)
  case atStart => exact ⟨0, rfl, rfl, Lib.hid rfl, Ext.refl _⟩
  case round =>
   obtain ⟨k, hgk, rfl, HK, hx⟩ := hrel
   by_cases hlt : k < p.parts.length
   ·
    have HG := Lib.hid (show gk - 1 + (k + 1) = p.parts.length ∧ gk - 1 < gk by omega); clear hgk; have HAT := Lib.hid (partAt_at hlt); obtain ⟨b, off, oh, ch, rfl, hc, hr⟩ := Part.at (r.ext (hx0.t hx)) k hlt; have h4 : (k : Int) < (p.parts.length : Int) := by omega
    try clear cf1
    try clear cf2
    have cf3 := blk2 (Ext.block hx HB0.out.1); have cf4 := blk1 (Ext.block hx HB0.out.2)
    go_wp2_with fail
    refine wp_region_ext (by kernel_rfl) (by kernel_rfl) ?_; have q0 := ExtW.cell (cf3.1); have q1 := ExtW.cell (cf3.2); have q2 := ExtW.cell (cf4); have q3 := ExtW.cell (hc.1); have q4 := ExtW.cell (hc.2.1); have q5 := ExtW.cell (hc.2.2.1); have q6 := ExtW.cell (hc.2.2.2)
    repeat (first | go_big_quiet_step (((first | (go_at_call 224; exact Calls.ext_of (s_ValidPart t _ _ p.parts[k] _ _ ((ha.ext (hx0.t hx)).ext (ExtW.h _)) ((hk.ext (hx0.t hx)).ext (ExtW.h _)) ((hr.ext (Ext.refl _)).ext (ExtW.h _))))))) | quiet_step (((first | (go_at_call 224; exact Calls.ext_of (s_ValidPart t _ _ p.parts[k] _ _ ((ha.ext (hx0.t hx)).ext (ExtW.h _)) ((hk.ext (hx0.t hx)).ext (ExtW.h _)) ((hr.ext (Ext.refl _)).ext (ExtW.h _))))))))
    refine wpQuiet_nil ?_; intro w1 hw1; have hz1 := ExtW.out hw1; clear hw1 q0 q1 q2 q3 q4 q5 q6
    cases b1 : validPart t p.parts[k]
    ·
     have HE := Lib.hid (wf_no (t := t) hlt (show partOk t p.parts k = false by unfold partOk; rw [HAT.out, b1]; rfl))
     try clear cf3
     try clear cf4
     have cf5 := blk2 (Ext.block (hx.t hz1) HB0.out.1); have cf6 := blk1 (Ext.block (hx.t hz1) HB0.out.2); have cf7 := Part.at_ext hz1 hc
     go_wp2_with fail
     go_ret
     exact ⟨ret_bool HE.out.symm, ((hx0.t hx).t hz1)⟩
    ·
     have hl1 := validPart_len b1
     rcases Nat.eq_zero_or_pos k with rfl | hk0
     ·
      have HK2 : Hid (allTo (partOk t p.parts) (0 + 1) = true) := Lib.hid (allTo_snoc rfl (show partOk t p.parts 0 = true by unfold partOk; rw [HAT.out, b1]; rfl))
      try clear cf3
      try clear cf4
      have cf8 := blk2 (Ext.block (hx.t hz1) HB0.out.1); have cf9 := blk1 (Ext.block (hx.t hz1) HB0.out.2); have cf10 := Part.at_ext hz1 hc
      go_wp2_with fail
      go_roundg (gk - 1)
      case measure => exact HG.out.2
      case rel => exact ⟨0 + 1, HG.out.1, by go_num, HK2, (hx.t hz1)⟩
     ·
      obtain ⟨j, hj⟩ : ∃ j, k = j + 1 := ⟨k - 1, by omega⟩
      have hjl : j < p.parts.length := by omega
      have hvj := partOk_valid HK.out (show j < k by omega) hjl; have hl2 := validPart_len hvj; have HJJ := Lib.hid hj; have hk1 : (0 : Int) < (k : Int) := by omega
      have hw2 : (k : Int) - 1 = (j : Int) := by omega
      obtain ⟨bj, offj, ohj, chj, ej, hd, hrj⟩ := Part.at (r.ext ((hx0.t hx).t hz1)) j hjl
      cases ej
      have h7 : (j : Int) < (p.parts.length : Int) := by omega
      have h8 : (0 : Int) ≤ (j : Int) := by omega
      have hl3 : p.parts[j].hops.length - 1 < p.parts[j].hops.length := by omega
      have hl4 : 0 < p.parts[k].hops.length := by omega
      have HF := Lib.hid (followAt_of hj hjl hlt hl3 hl4); have hwl : IntKind.i64.wrap ((p.parts[j].hops.length : Int) - 1) = ((p.parts[j].hops.length - 1 : Nat) : Int) := by rw [IntWalk.i64_in _ (by omega)]; omega
      have hl5 : ((p.parts[j].hops.length - 1 : Nat) : Int) < (p.parts[j].hops.length : Int) := by omega
      have hl6 : (0 : Int) ≤ ((p.parts[j].hops.length - 1 : Nat) : Int) := by omega
      have hl7 : (0 : Int) < (p.parts[k].hops.length : Int) := by omega
      clear hj hvj; obtain ⟨b3, off3, e3, ht3⟩ := Hop.at hrj (p.parts[j].hops.length - 1) hl3; obtain ⟨b4, off4, e4, ht4⟩ := Hop.at (hr.ext hz1) 0 hl4
      cases e3
      cases e4
      simp only [Nat.zero_mul, Nat.add_zero] at ht4
      try clear cf3
      try clear cf4
      have cf11 := blk2 (Ext.block (hx.t hz1) HB0.out.1); have cf12 := blk1 (Ext.block (hx.t hz1) HB0.out.2); have cf13 := Part.at_ext hz1 hc; generalize hlst : p.parts[j].hops.length - 1 = lst at *; have HLST := Lib.hid hlst; clear hlst; have hx2 : Ext w1 (w1.alloc (.cells #[.int .i64 p.parts[j].kind, .int .i64 p.parts[j].ts, .int .i64 p.parts[j].beta, .slice (some ⟨b3, off3, none⟩) p.parts[j].hops.length chj] 74)) := (Ext.refl _).alloc _; have HB2 := Lib.hid (blk_new w1 (.cells #[.int .i64 p.parts[j].kind, .int .i64 p.parts[j].ts, .int .i64 p.parts[j].beta, .slice (some ⟨b3, off3, none⟩) p.parts[j].hops.length chj] 74))
      go_wp2_with fail
      clear hw2
      by_cases hge : rank p.parts[k].kind ≤ rank p.parts[j].kind
      ·
       have hge2 : decide (rank p.parts[k].kind ≤ rank p.parts[j].kind) = true := decide_eq_true hge; have cf14 := blk2 (Ext.block ((hx.t hz1).t hx2) HB0.out.1); have cf15 := blk1 (Ext.block ((hx.t hz1).t hx2) HB0.out.2); have cf16 := blk4 HB2.out; have cf17 := Part.at_ext (hz1.t hx2) hc; have cf18 := Part.at_ext hx2 hd; have cf19 := Hop.at_ext hx2 ht3; have cf20 := hop0_ext hx2 ht4
       go_wp2_with fail
       refine wp_region_ext (by kernel_rfl) (by kernel_rfl) ?_; have q0 := ExtW.cell (cf14.1); have q1 := ExtW.cell (cf14.2); have q2 := ExtW.cell (cf15); have q3 := ExtW.cell (cf16.1); have q4 := ExtW.cell (cf16.2.1); have q5 := ExtW.cell (cf16.2.2.1); have q6 := ExtW.cell (cf16.2.2.2); have q7 := ExtW.cell (cf17.1); have q8 := ExtW.cell (cf17.2.1); have q9 := ExtW.cell (cf17.2.2.1); have q10 := ExtW.cell (cf17.2.2.2); have q11 := ExtW.cell (cf18.1); have q12 := ExtW.cell (cf18.2.1); have q13 := ExtW.cell (cf18.2.2.1); have q14 := ExtW.cell (cf18.2.2.2); have q15 := ExtW.cell (cf19.1); have q16 := ExtW.cell (cf19.2.1); have q17 := ExtW.cell (cf19.2.2.1); have q18 := ExtW.cell (cf19.2.2.2.1); have q19 := ExtW.cell (cf19.2.2.2.2); have q20 := ExtW.cell (cf20.1); have q21 := ExtW.cell (cf20.2.1); have q22 := ExtW.cell (cf20.2.2.1); have q23 := ExtW.cell (cf20.2.2.2.1); have q24 := ExtW.cell (cf20.2.2.2.2)
       repeat (first | go_big_quiet_step (((first | (go_at_call 225; exact Calls.ext_same (s_l22Rank _ _))))) | quiet_step (((first | (go_at_call 225; exact Calls.ext_same (s_l22Rank _ _))))))
       refine wpQuiet_nil ?_; intro w2 hw2; have hz2 := ExtW.out hw2; clear hw2 q0 q1 q2 q3 q4 q5 q6 q7 q8 q9 q10 q11 q12 q13 q14 q15 q16 q17 q18 q19 q20 q21 q22 q23 q24; have HE := Lib.hid (wf_no (t := t) hlt (show partOk t p.parts k = false by unfold partOk; rw [show k - 1 = j by rw [HJJ.out]; rfl, HF.out, decide_eq_false (by omega)]; simp; omega))
       try clear cf14
       try clear cf15
       try clear cf16
       try clear cf17
       try clear cf18
       try clear cf19
       try clear cf20
       have cf21 := blk2 (Ext.block (((hx.t hz1).t hx2).t hz2) HB0.out.1); have cf22 := blk1 (Ext.block (((hx.t hz1).t hx2).t hz2) HB0.out.2); have cf23 := blk4 (Ext.block hz2 HB2.out); have cf24 := Part.at_ext ((hz1.t hx2).t hz2) hc; have cf25 := Part.at_ext (hx2.t hz2) hd; have cf26 := Hop.at_ext (hx2.t hz2) ht3; have cf27 := hop0_ext (hx2.t hz2) ht4
       go_wp2_with fail
       go_ret
       exact ⟨ret_bool HE.out.symm, ((((hx0.t hx).t hz1).t hx2).t hz2)⟩
      ·
       have hge2 : decide (rank p.parts[k].kind ≤ rank p.parts[j].kind) = false := decide_eq_false hge
       cases b5 : (p.parts[j].hops[lst].asn == p.parts[k].hops[0].asn)
       ·
        have b5' : (p.parts[j].hops[lst].asn != p.parts[k].hops[0].asn) = true := by simp only [bne, b5]; rfl
        have cf28 := blk2 (Ext.block ((hx.t hz1).t hx2) HB0.out.1); have cf29 := blk1 (Ext.block ((hx.t hz1).t hx2) HB0.out.2); have cf30 := blk4 HB2.out; have cf31 := Part.at_ext (hz1.t hx2) hc; have cf32 := Part.at_ext hx2 hd; have cf33 := Hop.at_ext hx2 ht3; have cf34 := hop0_ext hx2 ht4
        go_wp2_with fail
        refine wp_region_ext (by kernel_rfl) (by kernel_rfl) ?_; have q0 := ExtW.cell (cf28.1); have q1 := ExtW.cell (cf28.2); have q2 := ExtW.cell (cf29); have q3 := ExtW.cell (cf30.1); have q4 := ExtW.cell (cf30.2.1); have q5 := ExtW.cell (cf30.2.2.1); have q6 := ExtW.cell (cf30.2.2.2); have q7 := ExtW.cell (cf31.1); have q8 := ExtW.cell (cf31.2.1); have q9 := ExtW.cell (cf31.2.2.1); have q10 := ExtW.cell (cf31.2.2.2); have q11 := ExtW.cell (cf32.1); have q12 := ExtW.cell (cf32.2.1); have q13 := ExtW.cell (cf32.2.2.1); have q14 := ExtW.cell (cf32.2.2.2); have q15 := ExtW.cell (cf33.1); have q16 := ExtW.cell (cf33.2.1); have q17 := ExtW.cell (cf33.2.2.1); have q18 := ExtW.cell (cf33.2.2.2.1); have q19 := ExtW.cell (cf33.2.2.2.2); have q20 := ExtW.cell (cf34.1); have q21 := ExtW.cell (cf34.2.1); have q22 := ExtW.cell (cf34.2.2.1); have q23 := ExtW.cell (cf34.2.2.2.1); have q24 := ExtW.cell (cf34.2.2.2.2)
        repeat (first | go_big_quiet_step (((first | (go_at_call 225; exact Calls.ext_same (s_l22Rank _ _))))) | quiet_step (((first | (go_at_call 225; exact Calls.ext_same (s_l22Rank _ _))))))
        refine wpQuiet_nil ?_; intro w3 hw3; have hz3 := ExtW.out hw3; clear hw3 q0 q1 q2 q3 q4 q5 q6 q7 q8 q9 q10 q11 q12 q13 q14 q15 q16 q17 q18 q19 q20 q21 q22 q23 q24; have HE := Lib.hid (wf_no (t := t) hlt (show partOk t p.parts k = false by unfold partOk; rw [show k - 1 = j by rw [HJJ.out]; rfl, HF.out]; simp only [b5]; simp; omega))
        try clear cf28
        try clear cf29
        try clear cf30
        try clear cf31
        try clear cf32
        try clear cf33
        try clear cf34
        have cf35 := blk2 (Ext.block (((hx.t hz1).t hx2).t hz3) HB0.out.1); have cf36 := blk1 (Ext.block (((hx.t hz1).t hx2).t hz3) HB0.out.2); have cf37 := blk4 (Ext.block hz3 HB2.out); have cf38 := Part.at_ext ((hz1.t hx2).t hz3) hc; have cf39 := Part.at_ext (hx2.t hz3) hd; have cf40 := Hop.at_ext (hx2.t hz3) ht3; have cf41 := hop0_ext (hx2.t hz3) ht4
        go_wp2_with fail
        go_ret
        exact ⟨ret_bool HE.out.symm, ((((hx0.t hx).t hz1).t hx2).t hz3)⟩
       ·
        have b5' : (p.parts[j].hops[lst].asn != p.parts[k].hops[0].asn) = false := by simp only [bne, b5]; rfl
        have cf42 := blk2 (Ext.block ((hx.t hz1).t hx2) HB0.out.1); have cf43 := blk1 (Ext.block ((hx.t hz1).t hx2) HB0.out.2); have cf44 := blk4 HB2.out; have cf45 := Part.at_ext (hz1.t hx2) hc; have cf46 := Part.at_ext hx2 hd; have cf47 := Hop.at_ext hx2 ht3; have cf48 := hop0_ext hx2 ht4
        go_wp2_with fail
        refine wp_region_ext (by kernel_rfl) (by kernel_rfl) ?_; have q0 := ExtW.cell (cf42.1); have q1 := ExtW.cell (cf42.2); have q2 := ExtW.cell (cf43); have q3 := ExtW.cell (cf44.1); have q4 := ExtW.cell (cf44.2.1); have q5 := ExtW.cell (cf44.2.2.1); have q6 := ExtW.cell (cf44.2.2.2); have q7 := ExtW.cell (cf45.1); have q8 := ExtW.cell (cf45.2.1); have q9 := ExtW.cell (cf45.2.2.1); have q10 := ExtW.cell (cf45.2.2.2); have q11 := ExtW.cell (cf46.1); have q12 := ExtW.cell (cf46.2.1); have q13 := ExtW.cell (cf46.2.2.1); have q14 := ExtW.cell (cf46.2.2.2); have q15 := ExtW.cell (cf47.1); have q16 := ExtW.cell (cf47.2.1); have q17 := ExtW.cell (cf47.2.2.1); have q18 := ExtW.cell (cf47.2.2.2.1); have q19 := ExtW.cell (cf47.2.2.2.2); have q20 := ExtW.cell (cf48.1); have q21 := ExtW.cell (cf48.2.1); have q22 := ExtW.cell (cf48.2.2.1); have q23 := ExtW.cell (cf48.2.2.2.1); have q24 := ExtW.cell (cf48.2.2.2.2)
        repeat (first | go_big_quiet_step (((first | (go_at_call 225; exact Calls.ext_same (s_l22Rank _ _))))) | quiet_step (((first | (go_at_call 225; exact Calls.ext_same (s_l22Rank _ _))))))
        refine wpQuiet_nil ?_; intro w4 hw4; have hz4 := ExtW.out hw4; clear hw4 q0 q1 q2 q3 q4 q5 q6 q7 q8 q9 q10 q11 q12 q13 q14 q15 q16 q17 q18 q19 q20 q21 q22 q23 q24; have HK2 := Lib.hid (allTo_snoc HK.out (show partOk t p.parts k = true by unfold partOk; rw [show k - 1 = j by rw [HJJ.out]; rfl, HAT.out, b1, HF.out]; simp only [b5, decide_eq_true (show rank p.parts[j].kind < rank p.parts[k].kind by omega)]; simp))
        try clear cf42
        try clear cf43
        try clear cf44
        try clear cf45
        try clear cf46
        try clear cf47
        try clear cf48
        have cf49 := blk2 (Ext.block (((hx.t hz1).t hx2).t hz4) HB0.out.1); have cf50 := blk1 (Ext.block (((hx.t hz1).t hx2).t hz4) HB0.out.2); have cf51 := blk4 (Ext.block hz4 HB2.out); have cf52 := Part.at_ext ((hz1.t hx2).t hz4) hc; have cf53 := Part.at_ext (hx2.t hz4) hd; have cf54 := Hop.at_ext (hx2.t hz4) ht3; have cf55 := hop0_ext (hx2.t hz4) ht4
        go_wp2_with fail
        go_roundg (gk - 1)
        case measure => exact HG.out.2
        case rel => exact ⟨k + 1, HG.out.1, by go_num, HK2, (((hx.t hz1).t hx2).t hz4)⟩
   ·
    obtain rfl : k = p.parts.length := by omega
    have HE := Lib.hid (HL.out.trans HK.out)
    try clear cf1
    try clear cf2
    have cf56 := blk2 (Ext.block hx HB0.out.1); have cf57 := blk1 (Ext.block hx HB0.out.2)
    go_wp2_with fail
    go_ret
    exact ⟨ret_bool HE.out.symm, (hx0.t hx)⟩
end
section
open Go.ChangeShapes Go.WideShapes Go.ChangeAt Go.RowKit Go.Deep
theorem simple_no {t : Topo} {p : Pth} {k : Nat} (hk : k < (usedIfs (pathSteps p.parts)).length) (h : freshAt (usedIfs (pathSteps p.parts)) k = false) : simple t p = false := by unfold simple; rw [allTo_no hk h]; simp
set_option maxRecDepth 100000 in
set_option maxHeartbeats 4000000 in
theorem i_SimplePath (t : Topo) (v1 v2 : Value) (p : Pth) (v : Value) (w : World) (ha : RdS ASd.rep w v1 t.ases) (hk : RdS Lnk.rep w v2 t.links) (r : RdS Part.rep w v p.parts) (hl : p.size ≤ 1048576) :
  Calls Tryz.prog 46 #[.agg #[v1, v2], .agg #[v]] w fun e w' => e = .returned (.bool (simple t p)) ∧ Ext w w' := by
 obtain ⟨o, cap, rfl, hsm⟩ := r.shape; have hx0 := ext2 w (.cells #[v1, v2] 56) (.cells #[.slice o p.parts.length cap] 35); have HB0 := Lib.hid (al2 w (.cells #[v1, v2] 56) (.cells #[.slice o p.parts.length cap] 35))
 go_enter Tryz.func46, Tryz.ntmps46
 have cf1 := blk2 HB0.out.1; have cf2 := blk1 HB0.out.2
 go_wp2_with fail
 refine (i_WellFormedPath t _ _ p _ _ (ha.ext hx0) (hk.ext hx0) (r.ext hx0)).mono ?_; rintro e w1 ⟨rfl, hz1⟩
 cases bb : wfPath t p
 ·
  have HE := Lib.hid (show simple t p = false by unfold simple; rw [bb]; rfl)
  try clear cf1
  try clear cf2
  have cf3 := blk2 (Ext.block hz1 HB0.out.1); have cf4 := blk1 (Ext.block hz1 HB0.out.2)
  go_wp2_with fail
  go_ret
  exact ⟨ret_bool HE.out.symm, (hx0.t hz1)⟩
 ·
  have HS := Lib.hid (show simple t p = allTo (freshAt (usedIfs (pathSteps p.parts))) (usedIfs (pathSteps p.parts)).length by unfold simple; rw [bb]; rfl); have hul := usedIfs_len (pathSteps p.parts); have hpl := pathSteps_len p.parts; have HNO := Lib.hid (fun (k : Nat) => simple_no (t := t) (p := p) (k := k)); clear bb
  try clear cf1
  try clear cf2
  have cf5 := blk2 (Ext.block hz1 HB0.out.1); have cf6 := blk1 (Ext.block hz1 HB0.out.2)
  go_wp2_with fail
  refine (i_InterfacesUsed p _ _ (r.ext (hx0.t hz1)) hl).mono ?_; rintro e w2 ⟨u, rfl, oq, hz2⟩; generalize usedIfs (pathSteps p.parts) = l at *; obtain ⟨og, cg, rfl, _⟩ := (ints_rep oq).shape; have hcg := (ints_rep oq).capLe; have hqr := ints_rep oq; clear oq
  try clear cf5
  try clear cf6
  have cf7 := blk2 (Ext.block (hz1.t hz2) HB0.out.1); have cf8 := blk1 (Ext.block (hz1.t hz2) HB0.out.2)
  go_wp2_with fail
  go_loopg [16] l.length (fun gk i wr => ∃ k : Nat, gk + k = l.length ∧ i = .int .i64 k ∧ Hid (allTo (freshAt l) k = true) ∧ Ext w2 wr)
  case atStart => exact ⟨0, rfl, rfl, Lib.hid rfl, Ext.refl _⟩
  case round =>
   obtain ⟨k, hgk, rfl, HK, hx⟩ := hrel
   by_cases hlt : k < l.length
   ·
    have HG := Lib.hid (show gk - 1 + (k + 1) = l.length ∧ gk - 1 < gk by omega); clear hgk; have HAT := Lib.hid (freshAt_at hlt); obtain ⟨bq, oq, rfl, hq⟩ := ints_at (hqr.ext hx) k hlt; have hqk := RdS.upto hqr k (by omega); have hkc : k ≤ cg := by omega
    have h4 : (k : Int) < (l.length : Int) := by omega
    have h6 : (k : Int) ≤ (cg : Int) := by omega
    try clear cf7
    try clear cf8
    have cf9 := blk2 (Ext.block ((hz1.t hz2).t hx) HB0.out.1); have cf10 := blk1 (Ext.block ((hz1.t hz2).t hx) HB0.out.2)
    go_wp2_with fail
    refine (i_hasInt (l.take k) _ l[k] _ (hqk.ext hx)).mono ?_; rintro e _ ⟨rfl, rfl⟩
    cases b1 : hasI (l.take k) l[k]
    ·
     have HK2 := Lib.hid (allTo_snoc HK.out (show freshAt l k = true by rw [HAT.out, b1]; rfl))
     go_wp2_with fail
     go_roundg (gk - 1)
     case measure => exact HG.out.2
     case rel => exact ⟨k + 1, HG.out.1, by go_num, HK2, hx⟩
    ·
     have HE := Lib.hid (HNO.out k hlt (by rw [HAT.out, b1]; rfl))
     go_wp2_with fail
     go_ret
     exact ⟨ret_bool HE.out.symm, (((hx0.t hz1).t hz2).t hx)⟩
   ·
    obtain rfl : k = l.length := by omega
    have HE := Lib.hid (HS.out.trans HK.out)
    try clear cf7
    try clear cf8
    have cf11 := blk2 (Ext.block ((hz1.t hz2).t hx) HB0.out.1); have cf12 := blk1 (Ext.block ((hz1.t hz2).t hx) HB0.out.2)
    go_wp2_with fail
    go_ret
    exact ⟨ret_bool HE.out.symm, (((hx0.t hz1).t hz2).t hx)⟩
set_option maxRecDepth 100000 in
set_option maxHeartbeats 4000000 in
theorem s_SimplePath (t : Topo) (v1 v2 : Value) (p : Pth) (v : Value) (w : World) (ha : RdS ASd.rep w v1 t.ases) (hk : RdS Lnk.rep w v2 t.links) (r : RdS Part.rep w v p.parts) (hl : p.size ≤ 1048576) :
  Calls Tryz.prog 109 #[.agg #[v1, v2], .agg #[v]] w fun e w' => e = .returned (.bool (simple t p)) ∧ Ext w w' := by
 obtain ⟨o, cap, rfl, hsm⟩ := r.shape; have hx0 := ext2 w (.cells #[v1, v2] 56) (.cells #[.slice o p.parts.length cap] 35); have HB0 := Lib.hid (al2 w (.cells #[v1, v2] 56) (.cells #[.slice o p.parts.length cap] 35))
 go_enter Tryz.func109, Tryz.ntmps109
 have cf1 := blk2 HB0.out.1; have cf2 := blk1 HB0.out.2
 go_wp2_with fail
 refine (s_WellFormedPath t _ _ p _ _ (ha.ext hx0) (hk.ext hx0) (r.ext hx0)).mono ?_; rintro e w1 ⟨rfl, hz1⟩
 cases bb : wfPath t p
 ·
  have HE := Lib.hid (show simple t p = false by unfold simple; rw [bb]; rfl)
  try clear cf1
  try clear cf2
  have cf3 := blk2 (Ext.block hz1 HB0.out.1); have cf4 := blk1 (Ext.block hz1 HB0.out.2)
  go_wp2_with fail
  go_ret
  exact ⟨ret_bool HE.out.symm, (hx0.t hz1)⟩
 ·
  have HS := Lib.hid (show simple t p = allTo (freshAt (usedIfs (pathSteps p.parts))) (usedIfs (pathSteps p.parts)).length by unfold simple; rw [bb]; rfl); have hul := usedIfs_len (pathSteps p.parts); have hpl := pathSteps_len p.parts; have HNO := Lib.hid (fun (k : Nat) => simple_no (t := t) (p := p) (k := k)); clear bb
  try clear cf1
  try clear cf2
  have cf5 := blk2 (Ext.block hz1 HB0.out.1); have cf6 := blk1 (Ext.block hz1 HB0.out.2)
  go_wp2_with fail
  refine (s_InterfacesUsed p _ _ (r.ext (hx0.t hz1)) hl).mono ?_; rintro e w2 ⟨u, rfl, oq, hz2⟩; generalize usedIfs (pathSteps p.parts) = l at *; obtain ⟨og, cg, rfl, _⟩ := (ints_rep oq).shape; have hcg := (ints_rep oq).capLe; have hqr := ints_rep oq; clear oq
  try clear cf5
  try clear cf6
  have cf7 := blk2 (Ext.block (hz1.t hz2) HB0.out.1); have cf8 := blk1 (Ext.block (hz1.t hz2) HB0.out.2)
  go_wp2_with fail
  go_loopg [6] l.length (fun gk i wr => ∃ k : Nat, gk + k = l.length ∧ i = .int .i64 k ∧ Hid (allTo (freshAt l) k = true) ∧ Ext w2 wr)
  case atStart => exact ⟨0, rfl, rfl, Lib.hid rfl, Ext.refl _⟩
  case round =>
   obtain ⟨k, hgk, rfl, HK, hx⟩ := hrel
   by_cases hlt : k < l.length
   ·
    have HG := Lib.hid (show gk - 1 + (k + 1) = l.length ∧ gk - 1 < gk by omega); clear hgk; have HAT := Lib.hid (freshAt_at hlt); obtain ⟨bq, oq, rfl, hq⟩ := ints_at (hqr.ext hx) k hlt; have hqk := RdS.upto hqr k (by omega); have hkc : k ≤ cg := by omega
    have h4 : (k : Int) < (l.length : Int) := by omega
    have h6 : (k : Int) ≤ (cg : Int) := by omega
    try clear cf7
    try clear cf8
    have cf9 := blk2 (Ext.block ((hz1.t hz2).t hx) HB0.out.1); have cf10 := blk1 (Ext.block ((hz1.t hz2).t hx) HB0.out.2)
    go_wp2_with fail
    refine wp_region_ext (by kernel_rfl) (by kernel_rfl) ?_; have q0 := ExtW.cell (cf9.1); have q1 := ExtW.cell (cf9.2); have q2 := ExtW.cell (cf10); have q3 := ExtW.cell (hq)
    repeat (first | go_big_quiet_step (((first | (go_at_call 99; exact Calls.ext_same (s_l9Has (l.take k) _ l[k] _ ((hqk.ext hx).ext (ExtW.h _))))))) | quiet_step (((first | (go_at_call 99; exact Calls.ext_same (s_l9Has (l.take k) _ l[k] _ ((hqk.ext hx).ext (ExtW.h _))))))))
    refine wpQuiet_nil ?_; intro w3 hw3; have hz3 := ExtW.out hw3; clear hw3 q0 q1 q2 q3
    cases b1 : hasI (l.take k) l[k]
    ·
     have HK2 := Lib.hid (allTo_snoc HK.out (show freshAt l k = true by rw [HAT.out, b1]; rfl))
     try clear cf9
     try clear cf10
     have cf11 := blk2 (Ext.block (((hz1.t hz2).t hx).t hz3) HB0.out.1); have cf12 := blk1 (Ext.block (((hz1.t hz2).t hx).t hz3) HB0.out.2); have cf13 := Ext.cell hz3 hq
     go_wp2_with fail
     go_roundg (gk - 1)
     case measure => exact HG.out.2
     case rel => exact ⟨k + 1, HG.out.1, by go_num, HK2, (hx.t hz3)⟩
    ·
     have HE := Lib.hid (HNO.out k hlt (by rw [HAT.out, b1]; rfl))
     try clear cf9
     try clear cf10
     have cf14 := blk2 (Ext.block (((hz1.t hz2).t hx).t hz3) HB0.out.1); have cf15 := blk1 (Ext.block (((hz1.t hz2).t hx).t hz3) HB0.out.2); have cf16 := Ext.cell hz3 hq
     go_wp2_with fail
     go_ret
     exact ⟨ret_bool HE.out.symm, ((((hx0.t hz1).t hz2).t hx).t hz3)⟩
   ·
    obtain rfl : k = l.length := by omega
    have HE := Lib.hid (HS.out.trans HK.out)
    try clear cf7
    try clear cf8
    have cf17 := blk2 (Ext.block ((hz1.t hz2).t hx) HB0.out.1); have cf18 := blk1 (Ext.block ((hz1.t hz2).t hx) HB0.out.2)
    go_wp2_with fail
    go_ret
    exact ⟨ret_bool HE.out.symm, (((hx0.t hz1).t hz2).t hx)⟩
set_option maxHeartbeats 400000 in
theorem s_HopValidAt (h : Hop) (now : Int) (w : World) :
  Calls Tryz.prog 229 #[.agg #[.int .i64 h.asn, .int .i64 h.ing, .int .i64 h.eg, .int .i64 h.exp, .int .i64 h.mac], .int .i64 now] w fun e w' => e = .returned (.bool (decide (now ≤ h.exp))) ∧ Ext w w' := by
 go_enter Tryz.func229, Tryz.ntmps229

 go_wp2
 go_ret
 exact ⟨rfl, (Ext.refl _).alloc _⟩
set_option maxHeartbeats 400000 in
theorem i_HopValidAt (h : Hop) (now : Int) (w : World) :
  Calls Tryz.prog 126 #[.agg #[.int .i64 h.asn, .int .i64 h.ing, .int .i64 h.eg, .int .i64 h.exp, .int .i64 h.mac], .int .i64 now] w fun e w' => e = .returned (.bool (decide (now ≤ h.exp))) ∧ Ext w w' := by
 go_enter Tryz.func126, Tryz.ntmps126

 go_wp2
 go_ret
 exact ⟨rfl, (Ext.refl _).alloc _⟩
end
section
open Go.RowKit
def verdictB (n : Int) : List Int :=
  if n = 0 then [102, 111, 114, 119, 97, 114, 100] else if n = 1 then [100, 101, 108, 105, 118, 101, 114] else if n = 2 then [109, 97, 108, 102, 111, 114, 109, 101, 100]
  else if n = 3 then [105, 110, 103, 114, 101, 115, 115] else if n = 4 then [109, 97, 99] else if n = 5 then [101, 120, 112, 105, 114, 101, 100] else if n = 6 then [116, 114, 97, 110, 115, 105, 116]
  else if n = 7 then [108, 105, 110, 107, 100, 111, 119, 110] else []
end
section
open Go.ChangeShapes Go.WideShapes Go.ChangeAt Go.RowKit Go.Deep
theorem ret_str {a b : ByteArray} (h : a = b) : Ending.returned (.string a) = .returned (.string b) := by rw [h]
theorem verdictB_no {n : Int} (h : inR n 0 7 = false) : verdictB n = [] := by
 have h1 : ¬ (0 ≤ n ∧ n ≤ 7) := fun h2 => by rw [inR_true.2 h2] at h; cases h
 unfold verdictB; rw [if_neg (by omega), if_neg (by omega), if_neg (by omega), if_neg (by omega), if_neg (by omega), if_neg (by omega), if_neg (by omega), if_neg (by omega)]
set_option maxRecDepth 100000 in
set_option maxHeartbeats 4000000 in
theorem i_VerdictName (n : Int) (w : World) :
  Calls Tryz.prog 39 #[.int .i64 n] w fun e w' => e = .returned (.string (strOfNums (verdictB n))) ∧ Ext w w' := by
 go_enter Tryz.func39, Tryz.ntmps39
 go_wp2_with fail
 refine (i_InRange _ _ _ _).mono ?_; rintro e _ ⟨rfl, rfl⟩
 cases h : inR n 0 7
 ·
  have HV := Lib.hid (verdictB_no h)
  go_wp2_with fail
  go_ret
  exact ⟨ret_str (by rw [HV.out]; rfl), (Ext.refl _)⟩
 ·
  have h2 := inR_true.1 h; have h3 : n = 0 ∨ n = 1 ∨ n = 2 ∨ n = 3 ∨ n = 4 ∨ n = 5 ∨ n = 6 ∨ n = 7 := by omega
  clear h h2
  rcases h3 with rfl | rfl | rfl | rfl | rfl | rfl | rfl | rfl
  ·
   have ix : ∀ w : World, (Instr.index 149 (.agg #[.string ⟨#[102, 111, 114, 119, 97, 114, 100]⟩, .string ⟨#[100, 101, 108, 105, 118, 101, 114]⟩, .string ⟨#[109, 97, 108, 102, 111, 114, 109, 101, 100]⟩, .string ⟨#[105, 110, 103, 114, 101, 115, 115]⟩, .string ⟨#[109, 97, 99]⟩, .string ⟨#[101, 120, 112, 105, 114, 101, 100]⟩, .string ⟨#[116, 114, 97, 110, 115, 105, 116]⟩, .string ⟨#[108, 105, 110, 107, 100, 111, 119, 110]⟩]) (.int .i64 0)).run Tryz.prog w = .ok (.string ⟨#[102, 111, 114, 119, 97, 114, 100]⟩) w := fun _ => by kernel_rfl
   go_wp2_with fail
   go_ret
   exact ⟨ret_str (by rfl), (Ext.refl _)⟩
  ·
   have ix : ∀ w : World, (Instr.index 149 (.agg #[.string ⟨#[102, 111, 114, 119, 97, 114, 100]⟩, .string ⟨#[100, 101, 108, 105, 118, 101, 114]⟩, .string ⟨#[109, 97, 108, 102, 111, 114, 109, 101, 100]⟩, .string ⟨#[105, 110, 103, 114, 101, 115, 115]⟩, .string ⟨#[109, 97, 99]⟩, .string ⟨#[101, 120, 112, 105, 114, 101, 100]⟩, .string ⟨#[116, 114, 97, 110, 115, 105, 116]⟩, .string ⟨#[108, 105, 110, 107, 100, 111, 119, 110]⟩]) (.int .i64 1)).run Tryz.prog w = .ok (.string ⟨#[100, 101, 108, 105, 118, 101, 114]⟩) w := fun _ => by kernel_rfl
   go_wp2_with fail
   go_ret
   exact ⟨ret_str (by rfl), (Ext.refl _)⟩
  ·
   have ix : ∀ w : World, (Instr.index 149 (.agg #[.string ⟨#[102, 111, 114, 119, 97, 114, 100]⟩, .string ⟨#[100, 101, 108, 105, 118, 101, 114]⟩, .string ⟨#[109, 97, 108, 102, 111, 114, 109, 101, 100]⟩, .string ⟨#[105, 110, 103, 114, 101, 115, 115]⟩, .string ⟨#[109, 97, 99]⟩, .string ⟨#[101, 120, 112, 105, 114, 101, 100]⟩, .string ⟨#[116, 114, 97, 110, 115, 105, 116]⟩, .string ⟨#[108, 105, 110, 107, 100, 111, 119, 110]⟩]) (.int .i64 2)).run Tryz.prog w = .ok (.string ⟨#[109, 97, 108, 102, 111, 114, 109, 101, 100]⟩) w := fun _ => by kernel_rfl
   go_wp2_with fail
   go_ret
   exact ⟨ret_str (by rfl), (Ext.refl _)⟩
  ·
   have ix : ∀ w : World, (Instr.index 149 (.agg #[.string ⟨#[102, 111, 114, 119, 97, 114, 100]⟩, .string ⟨#[100, 101, 108, 105, 118, 101, 114]⟩, .string ⟨#[109, 97, 108, 102, 111, 114, 109, 101, 100]⟩, .string ⟨#[105, 110, 103, 114, 101, 115, 115]⟩, .string ⟨#[109, 97, 99]⟩, .string ⟨#[101, 120, 112, 105, 114, 101, 100]⟩, .string ⟨#[116, 114, 97, 110, 115, 105, 116]⟩, .string ⟨#[108, 105, 110, 107, 100, 111, 119, 110]⟩]) (.int .i64 3)).run Tryz.prog w = .ok (.string ⟨#[105, 110, 103, 114, 101, 115, 115]⟩) w := fun _ => by kernel_rfl
   go_wp2_with fail
   go_ret
   exact ⟨ret_str (by rfl), (Ext.refl _)⟩
  ·
   have ix : ∀ w : World, (Instr.index 149 (.agg #[.string ⟨#[102, 111, 114, 119, 97, 114, 100]⟩, .string ⟨#[100, 101, 108, 105, 118, 101, 114]⟩, .string ⟨#[109, 97, 108, 102, 111, 114, 109, 101, 100]⟩, .string ⟨#[105, 110, 103, 114, 101, 115, 115]⟩, .string ⟨#[109, 97, 99]⟩, .string ⟨#[101, 120, 112, 105, 114, 101, 100]⟩, .string ⟨#[116, 114, 97, 110, 115, 105, 116]⟩, .string ⟨#[108, 105, 110, 107, 100, 111, 119, 110]⟩]) (.int .i64 4)).run Tryz.prog w = .ok (.string ⟨#[109, 97, 99]⟩) w := fun _ => by kernel_rfl
   go_wp2_with fail
   go_ret
   exact ⟨ret_str (by rfl), (Ext.refl _)⟩
  ·
   have ix : ∀ w : World, (Instr.index 149 (.agg #[.string ⟨#[102, 111, 114, 119, 97, 114, 100]⟩, .string ⟨#[100, 101, 108, 105, 118, 101, 114]⟩, .string ⟨#[109, 97, 108, 102, 111, 114, 109, 101, 100]⟩, .string ⟨#[105, 110, 103, 114, 101, 115, 115]⟩, .string ⟨#[109, 97, 99]⟩, .string ⟨#[101, 120, 112, 105, 114, 101, 100]⟩, .string ⟨#[116, 114, 97, 110, 115, 105, 116]⟩, .string ⟨#[108, 105, 110, 107, 100, 111, 119, 110]⟩]) (.int .i64 5)).run Tryz.prog w = .ok (.string ⟨#[101, 120, 112, 105, 114, 101, 100]⟩) w := fun _ => by kernel_rfl
   go_wp2_with fail
   go_ret
   exact ⟨ret_str (by rfl), (Ext.refl _)⟩
  ·
   have ix : ∀ w : World, (Instr.index 149 (.agg #[.string ⟨#[102, 111, 114, 119, 97, 114, 100]⟩, .string ⟨#[100, 101, 108, 105, 118, 101, 114]⟩, .string ⟨#[109, 97, 108, 102, 111, 114, 109, 101, 100]⟩, .string ⟨#[105, 110, 103, 114, 101, 115, 115]⟩, .string ⟨#[109, 97, 99]⟩, .string ⟨#[101, 120, 112, 105, 114, 101, 100]⟩, .string ⟨#[116, 114, 97, 110, 115, 105, 116]⟩, .string ⟨#[108, 105, 110, 107, 100, 111, 119, 110]⟩]) (.int .i64 6)).run Tryz.prog w = .ok (.string ⟨#[116, 114, 97, 110, 115, 105, 116]⟩) w := fun _ => by kernel_rfl
   go_wp2_with fail
   go_ret
   exact ⟨ret_str (by rfl), (Ext.refl _)⟩
  ·
   have ix : ∀ w : World, (Instr.index 149 (.agg #[.string ⟨#[102, 111, 114, 119, 97, 114, 100]⟩, .string ⟨#[100, 101, 108, 105, 118, 101, 114]⟩, .string ⟨#[109, 97, 108, 102, 111, 114, 109, 101, 100]⟩, .string ⟨#[105, 110, 103, 114, 101, 115, 115]⟩, .string ⟨#[109, 97, 99]⟩, .string ⟨#[101, 120, 112, 105, 114, 101, 100]⟩, .string ⟨#[116, 114, 97, 110, 115, 105, 116]⟩, .string ⟨#[108, 105, 110, 107, 100, 111, 119, 110]⟩]) (.int .i64 7)).run Tryz.prog w = .ok (.string ⟨#[108, 105, 110, 107, 100, 111, 119, 110]⟩) w := fun _ => by kernel_rfl
   go_wp2_with fail
   go_ret
   exact ⟨ret_str (by rfl), (Ext.refl _)⟩
set_option maxRecDepth 100000 in
set_option maxHeartbeats 4000000 in
theorem s_VerdictName (n : Int) (w : World) :
  Calls Tryz.prog 40 #[.int .i64 n] w fun e w' => e = .returned (.string (strOfNums (verdictB n))) ∧ Ext w w' := by
 go_enter Tryz.func40, Tryz.ntmps40
 go_wp2_with fail
 refine (s_l1In _ _ _ _).mono ?_; rintro e _ ⟨rfl, rfl⟩
 cases h : inR n 0 7
 ·
  have HV := Lib.hid (verdictB_no h)
  go_wp2_with fail
  go_ret
  exact ⟨ret_str (by rw [HV.out]; rfl), ((Ext.refl _).alloc _)⟩
 ·
  have h2 := inR_true.1 h; have h3 : n = 0 ∨ n = 1 ∨ n = 2 ∨ n = 3 ∨ n = 4 ∨ n = 5 ∨ n = 6 ∨ n = 7 := by omega
  clear h h2
  rcases h3 with rfl | rfl | rfl | rfl | rfl | rfl | rfl | rfl
  ·
   go_wp2_with fail
   go_ret
   exact ⟨ret_str (by rfl), ((Ext.refl _).alloc _)⟩
  ·
   go_wp2_with fail
   go_ret
   exact ⟨ret_str (by rfl), ((Ext.refl _).alloc _)⟩
  ·
   go_wp2_with fail
   go_ret
   exact ⟨ret_str (by rfl), ((Ext.refl _).alloc _)⟩
  ·
   go_wp2_with fail
   go_ret
   exact ⟨ret_str (by rfl), ((Ext.refl _).alloc _)⟩
  ·
   go_wp2_with fail
   go_ret
   exact ⟨ret_str (by rfl), ((Ext.refl _).alloc _)⟩
  ·
   go_wp2_with fail
   go_ret
   exact ⟨ret_str (by rfl), ((Ext.refl _).alloc _)⟩
  ·
   go_wp2_with fail
   go_ret
   exact ⟨ret_str (by rfl), ((Ext.refl _).alloc _)⟩
  ·
   go_wp2_with fail
   go_ret
   exact ⟨ret_str (by rfl), ((Ext.refl _).alloc _)⟩
end
end Go.Proofs.YtcpfmhgfaliemaaGreat
