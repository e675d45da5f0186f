/- Part 22 of 28 of what the laws FnNoDoorTwice and FnAuthor need: Contracts of the tests of whole paths: order of parts, interfaces, codes, expiry, program and reference. No condition but the bounds that each theorem names. Contracts of simple, verified and usable paths, program and reference. No condition but the bounds that each theorem names. -/
import Derived.Test.YtjmlicmloacmaaaGreatKN21
import Derived.Test.YtjmlicmloacmaaaGreatKN7
import Derived.Test.YtjmlicmloacmaaaGreatKN19
namespace Go.Proofs.YtjmlicmloacmaaaGreat
section
open Go.ChangeShapes Go.WideShapes Go.ChangeAt Go.RowKit Go.Deep

theorem betaFor_yes {x : Part} {k : Nat} (h : isRev x.kind = true) : betaFor x k = betaAfter x ((k : Int) + 1) := by unfold betaFor; rw [if_pos h]; push_cast; rfl
theorem betaFor_no {x : Part} {k : Nat} (h : isRev x.kind = false) : betaFor x k = betaAfter x (k : Int) := by unfold betaFor; rw [if_neg (by rw [h]; decide)]
theorem followAt_of {l : List Part} {j k : Nat} (hj : k = j + 1) (hjl : j < l.length) (h : k < l.length) (h1 : l[j].hops.length - 1 < l[j].hops.length) (h2 : 0 < l[k].hops.length) :
    followAt l j = (decide (rank l[j].kind < rank l[k].kind) && (l[j].hops[l[j].hops.length - 1].asn == l[k].hops[0].asn)) := by
  subst hj
  unfold followAt
  rw [partAt_at hjl, partAt_at h, hopAt_at h1, hopAt_at h2]
theorem wf_no {t : Topo} {p : Pth} {k : Nat} (hk : k < p.parts.length) (h : partOk t p.parts k = false) : wfPath t p = false := by unfold wfPath; rw [allTo_no hk h]; simp
theorem partOk_valid {t : Topo} {l : List Part} {k : Nat} (h : allTo (partOk t l) k = true) {j : Nat} (hj : j < k) (hl : j < l.length) : validPart t l[j] = true := by
  have := allTo_true.1 h j hj
  unfold partOk at this
  rw [partAt_at hl] at this
  simp only [Bool.and_eq_true] at this
  exact this.1
theorem simple_valid {t : Topo} {p : Pth} (h : simple t p = true) {j : Nat} (hj : j < p.parts.length) : validPart t p.parts[j] = true := by
  unfold simple wfPath at h
  simp only [Bool.and_eq_true] at h
  exact partOk_valid h.1.2 hj hj
theorem ends0 : True := trivial

theorem hop0_ext {w w' : World} {b off : Nat} {v0 v1 v2 v3 v4 : Value} (x : Ext w w') (h : w.cell? ⟨b, off, none⟩ = some v0 ∧ w.cell? ⟨b, off + 1, none⟩ = some v1 ∧ w.cell? ⟨b, off + 2, none⟩ = some v2 ∧ w.cell? ⟨b, off + 3, none⟩ = some v3 ∧ w.cell? ⟨b, off + 4, none⟩ = some v4) :
    w'.cell? ⟨b, off, none⟩ = some v0 ∧ w'.cell? ⟨b, off + 1, none⟩ = some v1 ∧ w'.cell? ⟨b, off + 2, none⟩ = some v2 ∧ w'.cell? ⟨b, off + 3, none⟩ = some v3 ∧ w'.cell? ⟨b, off + 4, none⟩ = some v4 :=
  ⟨x.cell h.1, x.cell h.2.1, x.cell h.2.2.1, x.cell h.2.2.2.1, x.cell h.2.2.2.2⟩

set_option maxHeartbeats 400000 in
theorem i_placeOf (k : Int) (w : World) :
    Calls Tryz.prog 172 #[.int .i64 k] w fun e w' => e = .returned (.int .i64 (rank k)) ∧ w = w' := by
  go_enter Tryz.func172, Tryz.ntmps172

  cases b1 : (k == 1) <;> cases b2 : (k == 2) <;> cases b3 : (k == 3)
  all_goals
    go_wp2
    go_ret
    exact ⟨ret_int (by unfold rank; rw [b1, b2, b3]; rfl), rfl⟩


set_option maxRecDepth 100000 in
set_option maxHeartbeats 8000000 in
theorem i_WellFormedPath (t : Topo) (v1 v2 : Value) (p : Pth) (v : Value) (w : World) (ha : RdS ASd.rep w v1 t.ases) (hk : RdS Lnk.rep w v2 t.links) (r : RdS Part.rep w v p.parts) :
    Calls Tryz.prog 62 #[.agg #[v1, v2], .agg #[v]] w fun e w' => e = .returned (.bool (wfPath t p)) ∧ Ext w w' := by
  obtain ⟨o, cap, rfl, hsm⟩ := r.shape
  have hx0 := ext2 w (.cells #[v1, v2] 33) (.cells #[.slice o p.parts.length cap] 26)
  have HB0 := Lib.hid (al2 w (.cells #[v1, v2] 33) (.cells #[.slice o p.parts.length cap] 26))
  go_enter Tryz.func62, Tryz.ntmps62
  have cf1 := blk2 HB0.out.1
  have cf2 := blk1 HB0.out.2
  go_wp2_with fail
  refine (i_InRange _ _ _ _).mono ?_
  rintro e _ ⟨rfl, rfl⟩
  cases bb : inR (p.parts.length : Int) 1 3
  · have HE := Lib.hid (show wfPath t p = false by unfold wfPath; rw [bb]; rfl)
    go_wp2_with fail
    go_ret
    exact ⟨ret_bool HE.out.symm, hx0⟩
  · have HL := Lib.hid (show wfPath t p = allTo (partOk t p.parts) p.parts.length by unfold wfPath; rw [bb]; rfl)
    clear bb
    obtain ⟨W0, hW0⟩ : ∃ W0 : World, W0 = (w.alloc (.cells #[v1, v2] 33)).alloc (.cells #[.slice o p.parts.length cap] 26) := ⟨_, rfl⟩
    rw [← hW0] at hx0 HB0
    go_wp2_with fail
    rw [← hW0]
    clear hW0
    go_loopg [16] p.parts.length (fun gk i wr => ∃ k : Nat, gk + k = p.parts.length ∧ i = .int .i64 k ∧ Hid (allTo (partOk t p.parts) k = true) ∧ Ext W0 wr)
    case atStart => exact ⟨0, rfl, rfl, Lib.hid rfl, Ext.refl _⟩
    case round =>
      obtain ⟨k, hgk, rfl, HK, hx⟩ := hrel
      by_cases hlt : k < p.parts.length
      · have HG := Lib.hid (show gk - 1 + (k + 1) = p.parts.length ∧ gk - 1 < gk by omega); clear hgk
        have HAT := Lib.hid (partAt_at hlt)
        obtain ⟨b, off, oh, ch, rfl, hc, hr⟩ := Part.at (r.ext (hx0.trans hx)) k hlt
        have h4 : (k : Int) < (p.parts.length : Int) := by omega
        try clear cf1
        try clear cf2
        have cf3 := blk2 (Ext.block hx HB0.out.1)
        have cf4 := blk1 (Ext.block hx HB0.out.2)
        have hx1 : Ext wr (wr.alloc (.cells #[.int .i64 p.parts[k].kind, .int .i64 p.parts[k].ts, .int .i64 p.parts[k].beta, .slice oh p.parts[k].hops.length ch] 47)) := (Ext.refl _).alloc _
        have HB1 := Lib.hid (blk_new wr (.cells #[.int .i64 p.parts[k].kind, .int .i64 p.parts[k].ts, .int .i64 p.parts[k].beta, .slice oh p.parts[k].hops.length ch] 47))
        have cf5 := blk2 (Ext.block (hx.trans hx1) HB0.out.1)
        have cf6 := blk1 (Ext.block (hx.trans hx1) HB0.out.2)
        have cf7 := blk4 HB1.out
        have cf8 := Part.at_ext hx1 hc
        go_wp2_with fail
        refine (i_ValidPart t _ _ p.parts[k] _ _ (ha.ext ((hx0.trans hx).trans hx1)) (hk.ext ((hx0.trans hx).trans hx1)) (hr.ext hx1)).mono ?_
        rintro e w1 ⟨rfl, hz1⟩
        cases b1 : validPart t p.parts[k]
        · have HE := Lib.hid (wf_no (t := t) hlt (show partOk t p.parts k = false by unfold partOk; rw [HAT.out, b1]; rfl))
          try clear cf5
          try clear cf6
          try clear cf7
          try clear cf8
          have cf9 := blk2 (Ext.block ((hx.trans hx1).trans hz1) HB0.out.1)
          have cf10 := blk1 (Ext.block ((hx.trans hx1).trans hz1) HB0.out.2)
          have cf11 := blk4 (Ext.block hz1 HB1.out)
          have cf12 := Part.at_ext (hx1.trans hz1) hc
          go_wp2_with fail
          go_ret
          exact ⟨ret_bool HE.out.symm, (((hx0.trans hx).trans hx1).trans hz1)⟩
        · have hl1 := validPart_len b1
          rcases Nat.eq_zero_or_pos k with rfl | hk0
          · have HK2 : Hid (allTo (partOk t p.parts) (0 + 1) = true) := Lib.hid (allTo_snoc rfl (show partOk t p.parts 0 = true by unfold partOk; rw [HAT.out, b1]; rfl))
            try clear cf5
            try clear cf6
            try clear cf7
            try clear cf8
            have cf13 := blk2 (Ext.block ((hx.trans hx1).trans hz1) HB0.out.1)
            have cf14 := blk1 (Ext.block ((hx.trans hx1).trans hz1) HB0.out.2)
            have cf15 := blk4 (Ext.block hz1 HB1.out)
            have cf16 := Part.at_ext (hx1.trans hz1) hc
            go_wp2_with fail
            go_roundg (gk - 1)
            case measure => exact HG.out.2
            case rel => exact ⟨0 + 1, HG.out.1, by go_num, HK2, ((hx.trans hx1).trans hz1)⟩
          · obtain ⟨j, hj⟩ : ∃ j, k = j + 1 := ⟨k - 1, by omega⟩
            have hjl : j < p.parts.length := by omega
            have hvj := partOk_valid HK.out (show j < k by omega) hjl
            have hl2 := validPart_len hvj
            have HJJ := Lib.hid hj
            have hk1 : (0 : Int) < (k : Int) := by omega
            have hw2 : (k : Int) - 1 = (j : Int) := by omega
            obtain ⟨bj, offj, ohj, chj, ej, hd, hrj⟩ := Part.at (r.ext (((hx0.trans hx).trans hx1).trans hz1)) j hjl
            cases ej
            have h7 : (j : Int) < (p.parts.length : Int) := by omega
            have h8 : (0 : Int) ≤ (j : Int) := by omega
            have hl3 : p.parts[j].hops.length - 1 < p.parts[j].hops.length := by omega
            have hl4 : 0 < p.parts[k].hops.length := by omega
            have HF := Lib.hid (followAt_of hj hjl hlt hl3 hl4)
            have hwl : IntKind.i64.wrap ((p.parts[j].hops.length : Int) - 1) = ((p.parts[j].hops.length - 1 : Nat) : Int) := by rw [IntWalk.i64_in _ (by omega)]; omega
            have hl5 : ((p.parts[j].hops.length - 1 : Nat) : Int) < (p.parts[j].hops.length : Int) := by omega
            have hl6 : (0 : Int) ≤ ((p.parts[j].hops.length - 1 : Nat) : Int) := by omega
            have hl7 : (0 : Int) < (p.parts[k].hops.length : Int) := by omega
            clear hj hvj
            obtain ⟨b3, off3, e3, ht3⟩ := Hop.at hrj (p.parts[j].hops.length - 1) hl3
            obtain ⟨b4, off4, e4, ht4⟩ := Hop.at (hr.ext (hx1.trans hz1)) 0 hl4
            cases e3
            cases e4
            simp only [Nat.zero_mul, Nat.add_zero] at ht4
            try clear cf5
            try clear cf6
            try clear cf7
            try clear cf8
            have cf17 := blk2 (Ext.block ((hx.trans hx1).trans hz1) HB0.out.1)
            have cf18 := blk1 (Ext.block ((hx.trans hx1).trans hz1) HB0.out.2)
            have cf19 := blk4 (Ext.block hz1 HB1.out)
            have cf20 := Part.at_ext (hx1.trans hz1) hc
            generalize hlst : p.parts[j].hops.length - 1 = lst at *
            have HLST := Lib.hid hlst; clear hlst
            have hx2 : Ext w1 (w1.alloc (.cells #[.int .i64 p.parts[j].kind, .int .i64 p.parts[j].ts, .int .i64 p.parts[j].beta, .slice (some ⟨b3, off3, none⟩) p.parts[j].hops.length chj] 47)) := (Ext.refl _).alloc _
            have HB2 := Lib.hid (blk_new w1 (.cells #[.int .i64 p.parts[j].kind, .int .i64 p.parts[j].ts, .int .i64 p.parts[j].beta, .slice (some ⟨b3, off3, none⟩) p.parts[j].hops.length chj] 47))
            go_wp2_with fail
            clear hw2
            by_cases hge : rank p.parts[k].kind ≤ rank p.parts[j].kind
            · have hge2 : decide (rank p.parts[k].kind ≤ rank p.parts[j].kind) = true := decide_eq_true hge
              have cf21 := blk2 (Ext.block (((hx.trans hx1).trans hz1).trans hx2) HB0.out.1)
              have cf22 := blk1 (Ext.block (((hx.trans hx1).trans hz1).trans hx2) HB0.out.2)
              have cf23 := blk4 (Ext.block (hz1.trans hx2) HB1.out)
              have cf24 := blk4 HB2.out
              have cf25 := Part.at_ext ((hx1.trans hz1).trans hx2) hc
              have cf26 := Part.at_ext hx2 hd
              have cf27 := Hop.at_ext hx2 ht3
              have cf28 := hop0_ext hx2 ht4
              go_wp2_with fail
              refine wp_region_ext (by kernel_rfl) (by kernel_rfl) ?_
              have q0 := ExtW.cell (cf21.1)
              have q1 := ExtW.cell (cf21.2)
              have q2 := ExtW.cell (cf22)
              have q3 := ExtW.cell (cf23.1)
              have q4 := ExtW.cell (cf23.2.1)
              have q5 := ExtW.cell (cf23.2.2.1)
              have q6 := ExtW.cell (cf23.2.2.2)
              have q7 := ExtW.cell (cf24.1)
              have q8 := ExtW.cell (cf24.2.1)
              have q9 := ExtW.cell (cf24.2.2.1)
              have q10 := ExtW.cell (cf24.2.2.2)
              have q11 := ExtW.cell (cf25.1)
              have q12 := ExtW.cell (cf25.2.1)
              have q13 := ExtW.cell (cf25.2.2.1)
              have q14 := ExtW.cell (cf25.2.2.2)
              have q15 := ExtW.cell (cf26.1)
              have q16 := ExtW.cell (cf26.2.1)
              have q17 := ExtW.cell (cf26.2.2.1)
              have q18 := ExtW.cell (cf26.2.2.2)
              have q19 := ExtW.cell (cf27.1)
              have q20 := ExtW.cell (cf27.2.1)
              have q21 := ExtW.cell (cf27.2.2.1)
              have q22 := ExtW.cell (cf27.2.2.2.1)
              have q23 := ExtW.cell (cf27.2.2.2.2)
              have q24 := ExtW.cell (cf28.1)
              have q25 := ExtW.cell (cf28.2.1)
              have q26 := ExtW.cell (cf28.2.2.1)
              have q27 := ExtW.cell (cf28.2.2.2.1)
              have q28 := ExtW.cell (cf28.2.2.2.2)
              repeat (first | go_big_quiet_step (((first | (go_at_call 172; exact Calls.ext_same (i_placeOf _ _))))) | quiet_step (((first | (go_at_call 172; exact Calls.ext_same (i_placeOf _ _))))))
              refine wpQuiet_nil ?_
              intro w2 hw2
              have hz2 := ExtW.out hw2
              clear hw2 q0 q1 q2 q3 q4 q5 q6 q7 q8 q9 q10 q11 q12 q13 q14 q15 q16 q17 q18 q19 q20 q21 q22 q23 q24 q25 q26 q27 q28
              have HE := Lib.hid (wf_no (t := t) hlt (show partOk t p.parts k = false by unfold partOk; rw [show k - 1 = j by rw [HJJ.out]; rfl, HF.out, decide_eq_false (by omega)]; simp; omega))
              try clear cf21
              try clear cf22
              try clear cf23
              try clear cf24
              try clear cf25
              try clear cf26
              try clear cf27
              try clear cf28
              have cf29 := blk2 (Ext.block ((((hx.trans hx1).trans hz1).trans hx2).trans hz2) HB0.out.1)
              have cf30 := blk1 (Ext.block ((((hx.trans hx1).trans hz1).trans hx2).trans hz2) HB0.out.2)
              have cf31 := blk4 (Ext.block ((hz1.trans hx2).trans hz2) HB1.out)
              have cf32 := blk4 (Ext.block hz2 HB2.out)
              have cf33 := Part.at_ext (((hx1.trans hz1).trans hx2).trans hz2) hc
              have cf34 := Part.at_ext (hx2.trans hz2) hd
              have cf35 := Hop.at_ext (hx2.trans hz2) ht3
              have cf36 := hop0_ext (hx2.trans hz2) ht4
              go_wp2_with fail
              go_ret
              exact ⟨ret_bool HE.out.symm, (((((hx0.trans hx).trans hx1).trans hz1).trans hx2).trans hz2)⟩
            · have hge2 : decide (rank p.parts[k].kind ≤ rank p.parts[j].kind) = false := decide_eq_false hge
              cases b5 : (p.parts[j].hops[lst].asn == p.parts[k].hops[0].asn)
              · have b5' : (p.parts[j].hops[lst].asn != p.parts[k].hops[0].asn) = true := by simp only [bne, b5]; rfl
                have cf37 := blk2 (Ext.block (((hx.trans hx1).trans hz1).trans hx2) HB0.out.1)
                have cf38 := blk1 (Ext.block (((hx.trans hx1).trans hz1).trans hx2) HB0.out.2)
                have cf39 := blk4 (Ext.block (hz1.trans hx2) HB1.out)
                have cf40 := blk4 HB2.out
                have cf41 := Part.at_ext ((hx1.trans hz1).trans hx2) hc
                have cf42 := Part.at_ext hx2 hd
                have cf43 := Hop.at_ext hx2 ht3
                have cf44 := hop0_ext hx2 ht4
                go_wp2_with fail
                refine wp_region_ext (by kernel_rfl) (by kernel_rfl) ?_
                have q0 := ExtW.cell (cf37.1)
                have q1 := ExtW.cell (cf37.2)
                have q2 := ExtW.cell (cf38)
                have q3 := ExtW.cell (cf39.1)
                have q4 := ExtW.cell (cf39.2.1)
                have q5 := ExtW.cell (cf39.2.2.1)
                have q6 := ExtW.cell (cf39.2.2.2)
                have q7 := ExtW.cell (cf40.1)
                have q8 := ExtW.cell (cf40.2.1)
                have q9 := ExtW.cell (cf40.2.2.1)
                have q10 := ExtW.cell (cf40.2.2.2)
                have q11 := ExtW.cell (cf41.1)
                have q12 := ExtW.cell (cf41.2.1)
                have q13 := ExtW.cell (cf41.2.2.1)
                have q14 := ExtW.cell (cf41.2.2.2)
                have q15 := ExtW.cell (cf42.1)
                have q16 := ExtW.cell (cf42.2.1)
                have q17 := ExtW.cell (cf42.2.2.1)
                have q18 := ExtW.cell (cf42.2.2.2)
                have q19 := ExtW.cell (cf43.1)
                have q20 := ExtW.cell (cf43.2.1)
                have q21 := ExtW.cell (cf43.2.2.1)
                have q22 := ExtW.cell (cf43.2.2.2.1)
                have q23 := ExtW.cell (cf43.2.2.2.2)
                have q24 := ExtW.cell (cf44.1)
                have q25 := ExtW.cell (cf44.2.1)
                have q26 := ExtW.cell (cf44.2.2.1)
                have q27 := ExtW.cell (cf44.2.2.2.1)
                have q28 := ExtW.cell (cf44.2.2.2.2)
                repeat (first | go_big_quiet_step (((first | (go_at_call 172; exact Calls.ext_same (i_placeOf _ _))))) | quiet_step (((first | (go_at_call 172; exact Calls.ext_same (i_placeOf _ _))))))
                refine wpQuiet_nil ?_
                intro w3 hw3
                have hz3 := ExtW.out hw3
                clear hw3 q0 q1 q2 q3 q4 q5 q6 q7 q8 q9 q10 q11 q12 q13 q14 q15 q16 q17 q18 q19 q20 q21 q22 q23 q24 q25 q26 q27 q28
                have HE := Lib.hid (wf_no (t := t) hlt (show partOk t p.parts k = false by unfold partOk; rw [show k - 1 = j by rw [HJJ.out]; rfl, HF.out]; simp only [b5]; simp; omega))
                try clear cf37
                try clear cf38
                try clear cf39
                try clear cf40
                try clear cf41
                try clear cf42
                try clear cf43
                try clear cf44
                have cf45 := blk2 (Ext.block ((((hx.trans hx1).trans hz1).trans hx2).trans hz3) HB0.out.1)
                have cf46 := blk1 (Ext.block ((((hx.trans hx1).trans hz1).trans hx2).trans hz3) HB0.out.2)
                have cf47 := blk4 (Ext.block ((hz1.trans hx2).trans hz3) HB1.out)
                have cf48 := blk4 (Ext.block hz3 HB2.out)
                have cf49 := Part.at_ext (((hx1.trans hz1).trans hx2).trans hz3) hc
                have cf50 := Part.at_ext (hx2.trans hz3) hd
                have cf51 := Hop.at_ext (hx2.trans hz3) ht3
                have cf52 := hop0_ext (hx2.trans hz3) ht4
                go_wp2_with fail
                go_ret
                exact ⟨ret_bool HE.out.symm, (((((hx0.trans hx).trans hx1).trans hz1).trans hx2).trans hz3)⟩
              · have b5' : (p.parts[j].hops[lst].asn != p.parts[k].hops[0].asn) = false := by simp only [bne, b5]; rfl
                have cf53 := blk2 (Ext.block (((hx.trans hx1).trans hz1).trans hx2) HB0.out.1)
                have cf54 := blk1 (Ext.block (((hx.trans hx1).trans hz1).trans hx2) HB0.out.2)
                have cf55 := blk4 (Ext.block (hz1.trans hx2) HB1.out)
                have cf56 := blk4 HB2.out
                have cf57 := Part.at_ext ((hx1.trans hz1).trans hx2) hc
                have cf58 := Part.at_ext hx2 hd
                have cf59 := Hop.at_ext hx2 ht3
                have cf60 := hop0_ext hx2 ht4
                go_wp2_with fail
                refine wp_region_ext (by kernel_rfl) (by kernel_rfl) ?_
                have q0 := ExtW.cell (cf53.1)
                have q1 := ExtW.cell (cf53.2)
                have q2 := ExtW.cell (cf54)
                have q3 := ExtW.cell (cf55.1)
                have q4 := ExtW.cell (cf55.2.1)
                have q5 := ExtW.cell (cf55.2.2.1)
                have q6 := ExtW.cell (cf55.2.2.2)
                have q7 := ExtW.cell (cf56.1)
                have q8 := ExtW.cell (cf56.2.1)
                have q9 := ExtW.cell (cf56.2.2.1)
                have q10 := ExtW.cell (cf56.2.2.2)
                have q11 := ExtW.cell (cf57.1)
                have q12 := ExtW.cell (cf57.2.1)
                have q13 := ExtW.cell (cf57.2.2.1)
                have q14 := ExtW.cell (cf57.2.2.2)
                have q15 := ExtW.cell (cf58.1)
                have q16 := ExtW.cell (cf58.2.1)
                have q17 := ExtW.cell (cf58.2.2.1)
                have q18 := ExtW.cell (cf58.2.2.2)
                have q19 := ExtW.cell (cf59.1)
                have q20 := ExtW.cell (cf59.2.1)
                have q21 := ExtW.cell (cf59.2.2.1)
                have q22 := ExtW.cell (cf59.2.2.2.1)
                have q23 := ExtW.cell (cf59.2.2.2.2)
                have q24 := ExtW.cell (cf60.1)
                have q25 := ExtW.cell (cf60.2.1)
                have q26 := ExtW.cell (cf60.2.2.1)
                have q27 := ExtW.cell (cf60.2.2.2.1)
                have q28 := ExtW.cell (cf60.2.2.2.2)
                repeat (first | go_big_quiet_step (((first | (go_at_call 172; exact Calls.ext_same (i_placeOf _ _))))) | quiet_step (((first | (go_at_call 172; exact Calls.ext_same (i_placeOf _ _))))))
                refine wpQuiet_nil ?_
                intro w4 hw4
                have hz4 := ExtW.out hw4
                clear hw4 q0 q1 q2 q3 q4 q5 q6 q7 q8 q9 q10 q11 q12 q13 q14 q15 q16 q17 q18 q19 q20 q21 q22 q23 q24 q25 q26 q27 q28
                have HK2 := Lib.hid (allTo_snoc HK.out (show partOk t p.parts k = true by unfold partOk; rw [show k - 1 = j by rw [HJJ.out]; rfl, HAT.out, b1, HF.out]; simp only [b5, decide_eq_true (show rank p.parts[j].kind < rank p.parts[k].kind by omega)]; simp))
                try clear cf53
                try clear cf54
                try clear cf55
                try clear cf56
                try clear cf57
                try clear cf58
                try clear cf59
                try clear cf60
                have cf61 := blk2 (Ext.block ((((hx.trans hx1).trans hz1).trans hx2).trans hz4) HB0.out.1)
                have cf62 := blk1 (Ext.block ((((hx.trans hx1).trans hz1).trans hx2).trans hz4) HB0.out.2)
                have cf63 := blk4 (Ext.block ((hz1.trans hx2).trans hz4) HB1.out)
                have cf64 := blk4 (Ext.block hz4 HB2.out)
                have cf65 := Part.at_ext (((hx1.trans hz1).trans hx2).trans hz4) hc
                have cf66 := Part.at_ext (hx2.trans hz4) hd
                have cf67 := Hop.at_ext (hx2.trans hz4) ht3
                have cf68 := hop0_ext (hx2.trans hz4) ht4
                go_wp2_with fail
                go_roundg (gk - 1)
                case measure => exact HG.out.2
                case rel => exact ⟨k + 1, HG.out.1, by go_num, HK2, ((((hx.trans hx1).trans hz1).trans hx2).trans hz4)⟩
      · obtain rfl : k = p.parts.length := by omega
        have HE := Lib.hid (HL.out.trans HK.out)
        try clear cf1
        try clear cf2
        have cf69 := blk2 (Ext.block hx HB0.out.1)
        have cf70 := blk1 (Ext.block hx HB0.out.2)
        go_wp2_with fail
        go_ret
        exact ⟨ret_bool HE.out.symm, (hx0.trans hx)⟩


end
section
open Go.ChangeShapes Go.WideShapes Go.ChangeAt Go.RowKit Go.Deep

theorem wf_len {t : Topo} {p : Pth} (h : wfPath t p = true) : 1 ≤ p.parts.length ∧ p.parts.length ≤ 3 := by
  unfold wfPath at h
  simp only [Bool.and_eq_true] at h
  have := inR_true.1 h.1
  omega
theorem simple_no {t : Topo} {p : Pth} {k : Nat} (hk : k < (usedIfs (pathSteps p.parts)).length) (h : freshAt (usedIfs (pathSteps p.parts)) k = false) : simple t p = false := by unfold simple; rw [allTo_no hk h]; simp
theorem verPart_no {t : Topo} {x : Part} {k : Nat} (hk : k < x.hops.length) (h : verHop t x.ts (betaFor x k) x.hops[k] = false) : verPart t x = false := by
  unfold verPart; exact allTo_no hk (by rw [hopAt_at hk]; exact h)
theorem verPath_no {t : Topo} {p : Pth} {k : Nat} (hk : k < p.parts.length) (h : verPart t p.parts[k] = false) : verPath t p = false := by
  unfold verPath; exact allTo_no hk (by rw [partAt_at hk]; exact h)
theorem usable_no {t : Topo} {p : Pth} {now : Int} {k : Nat} (hk : k < p.parts.length) (h : partIn' now p.parts[k] = false) : usable t p now = false := by
  unfold usable; rw [allTo_no hk (by rw [partAt_at hk]; exact h)]; simp
theorem revPath_sizeB (x : Pth) : (revPath x).size = x.size := by unfold Pth.size revPath; dsimp only; rw [revParts_len, revParts_hops]
def bidir (t : Topo) (p : Pth) (now : Int) : Bool := usable t p now && usable t (revPath p) now






set_option maxRecDepth 100000 in
set_option maxHeartbeats 4000000 in
theorem i_SimplePath (t : Topo) (v1 v2 : Value) (p : Pth) (v : Value) (w : World) (ha : RdS ASd.rep w v1 t.ases) (hk : RdS Lnk.rep w v2 t.links) (r : RdS Part.rep w v p.parts) (hl : p.size ≤ 1048576) :
    Calls Tryz.prog 104 #[.agg #[v1, v2], .agg #[v]] w fun e w' => e = .returned (.bool (simple t p)) ∧ Ext w w' := by
  obtain ⟨o, cap, rfl, hsm⟩ := r.shape
  have hx0 := ext2 w (.cells #[v1, v2] 33) (.cells #[.slice o p.parts.length cap] 26)
  have HB0 := Lib.hid (al2 w (.cells #[v1, v2] 33) (.cells #[.slice o p.parts.length cap] 26))
  go_enter Tryz.func104, Tryz.ntmps104
  have cf1 := blk2 HB0.out.1
  have cf2 := blk1 HB0.out.2
  go_wp2_with fail
  refine (i_WellFormedPath t _ _ p _ _ (ha.ext hx0) (hk.ext hx0) (r.ext hx0)).mono ?_
  rintro e w1 ⟨rfl, hz1⟩
  cases bb : wfPath t p
  · have HE := Lib.hid (show simple t p = false by unfold simple; rw [bb]; rfl)
    try clear cf1
    try clear cf2
    have cf3 := blk2 (Ext.block hz1 HB0.out.1)
    have cf4 := blk1 (Ext.block hz1 HB0.out.2)
    go_wp2_with fail
    go_ret
    exact ⟨ret_bool HE.out.symm, (hx0.trans hz1)⟩
  · have HS := Lib.hid (show simple t p = allTo (freshAt (usedIfs (pathSteps p.parts))) (usedIfs (pathSteps p.parts)).length by unfold simple; rw [bb]; rfl)
    have hul := usedIfs_len (pathSteps p.parts)
    have hpl := pathSteps_len p.parts
    have HNO := Lib.hid (fun (k : Nat) => simple_no (t := t) (p := p) (k := k))
    clear bb
    try clear cf1
    try clear cf2
    have cf5 := blk2 (Ext.block hz1 HB0.out.1)
    have cf6 := blk1 (Ext.block hz1 HB0.out.2)
    go_wp2_with fail
    refine (i_InterfacesUsed p _ _ (r.ext (hx0.trans hz1)) hl).mono ?_
    rintro e w2 ⟨u, rfl, oq, hz2⟩
    generalize usedIfs (pathSteps p.parts) = l at *
    obtain ⟨og, cg, rfl, _⟩ := (ints_rep oq).shape
    have hcg := (ints_rep oq).capLe
    have hqr := ints_rep oq
    clear oq
    try clear cf5
    try clear cf6
    have cf7 := blk2 (Ext.block (hz1.trans hz2) HB0.out.1)
    have cf8 := blk1 (Ext.block (hz1.trans hz2) HB0.out.2)
    go_wp2_with fail
    go_loopg [16] l.length (fun gk i wr => ∃ k : Nat, gk + k = l.length ∧ i = .int .i64 k ∧ Hid (allTo (freshAt l) k = true) ∧ Ext w2 wr)
    case atStart => exact ⟨0, rfl, rfl, Lib.hid rfl, Ext.refl _⟩
    case round =>
      obtain ⟨k, hgk, rfl, HK, hx⟩ := hrel
      by_cases hlt : k < l.length
      · have HG := Lib.hid (show gk - 1 + (k + 1) = l.length ∧ gk - 1 < gk by omega); clear hgk
        have HAT := Lib.hid (freshAt_at hlt)
        obtain ⟨bq, oq, rfl, hq⟩ := ints_at (hqr.ext hx) k hlt
        have hqk := RdS.upto hqr k (by omega)
        have hkc : k ≤ cg := by omega
        have h4 : (k : Int) < (l.length : Int) := by omega
        have h6 : (k : Int) ≤ (cg : Int) := by omega
        try clear cf7
        try clear cf8
        have cf9 := blk2 (Ext.block ((hz1.trans hz2).trans hx) HB0.out.1)
        have cf10 := blk1 (Ext.block ((hz1.trans hz2).trans hx) HB0.out.2)
        go_wp2_with fail
        refine (i_hasInt (l.take k) _ l[k] _ (hqk.ext hx)).mono ?_
        rintro e _ ⟨rfl, rfl⟩
        cases b1 : hasI (l.take k) l[k]
        · have HK2 := Lib.hid (allTo_snoc HK.out (show freshAt l k = true by rw [HAT.out, b1]; rfl))
          go_wp2_with fail
          go_roundg (gk - 1)
          case measure => exact HG.out.2
          case rel => exact ⟨k + 1, HG.out.1, by go_num, HK2, hx⟩
        · have HE := Lib.hid (HNO.out k hlt (by rw [HAT.out, b1]; rfl))
          go_wp2_with fail
          go_ret
          exact ⟨ret_bool HE.out.symm, (((hx0.trans hz1).trans hz2).trans hx)⟩
      · obtain rfl : k = l.length := by omega
        have HE := Lib.hid (HS.out.trans HK.out)
        try clear cf7
        try clear cf8
        have cf11 := blk2 (Ext.block ((hz1.trans hz2).trans hx) HB0.out.1)
        have cf12 := blk1 (Ext.block ((hz1.trans hz2).trans hx) HB0.out.2)
        go_wp2_with fail
        go_ret
        exact ⟨ret_bool HE.out.symm, (((hx0.trans hz1).trans hz2).trans hx)⟩




set_option maxHeartbeats 400000 in
theorem i_HopValidAt (h : Hop) (now : Int) (w : World) :
    Calls Tryz.prog 140 #[.agg #[.int .i64 h.asn, .int .i64 h.ing, .int .i64 h.eg, .int .i64 h.exp, .int .i64 h.mac], .int .i64 now] w fun e w' => e = .returned (.bool (decide (now ≤ h.exp))) ∧ Ext w w' := by
  go_enter Tryz.func140, Tryz.ntmps140

  go_wp2
  go_ret
  exact ⟨rfl, (Ext.refl _).alloc _⟩





end
end Go.Proofs.YtjmlicmloacmaaaGreat
