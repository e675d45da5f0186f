/- What these laws need: FnFinishes, FnParts: Contracts of links, interfaces and failed interfaces of a topology, program and reference. Contracts of digests, codes and hop fields, program and reference. Contracts of chains of residues, of comparing rows of numbers, and of keys, program and reference. Contracts of the far ends of links, of rows of hop fields and of parts, program and reference. -/
import Derived.Deep.LoopGhost
import Derived.Test.YtikbeiafobnblaaKQ13
import Derived.Test.YtikbeiafobnblaaKQ17
namespace Go.Proofs.Ytikbeiafobnblaa
section
open Go.ChangeShapes Go.WideShapes Go.ChangeAt Go.RowKit Go.Deep
set_option maxHeartbeats 1000000 in
theorem i_usesInterface (x : Lnk) (r d : Int) (w : World) :
  Calls Try.prog 220 #[.agg #[.int .i64 x.a, .int .i64 x.ai, .int .i64 x.b, .int .i64 x.bi, .int .i64 x.kind], .int .i64 r, .int .i64 d] w fun e w' => e = .returned (.bool (usesIf x r d)) ∧ Ext w w' := by
 go_enter Try.func220, Try.ntmps220
 cases h1 : (x.a == r) <;> cases h2 : (x.ai == d) <;> cases h3 : (x.b == r) <;> cases h4 : (x.bi == d)
 all_goals
  go_wp2
  go_ret
  exact ⟨ret_bool (by unfold usesIf; rw [h1, h2, h3, h4]; rfl), (Ext.refl _).alloc _⟩
set_option maxHeartbeats 1000000 in
theorem i_LinkIndex (t : Topo) (v1 v2 : Value) (r d : Int) (w : World) (h2 : RdS Lnk.rep w v2 t.links) :
  Calls Try.prog 180 #[.agg #[v1, v2], .int .i64 r, .int .i64 d] w fun e w' => e = .returned (.int .i64 (linkIdx t.links r d)) ∧ Ext w w' := by
 obtain ⟨o, cap, rfl, hsm⟩ := h2.shape
 have hx0 : Ext w (w.alloc (.cells #[v1, .slice o t.links.length cap] 41)) := (Ext.refl _).alloc _
 have hB := blk_new w (.cells #[v1, .slice o t.links.length cap] 41)
 have HB := Lib.hid hB; clear hB
 have hv := h2.ext hx0
 have hLI : linkIdx t.links r d = linkFrom r d 0 t.links := rfl
 have HLI := Lib.hid hLI; clear hLI
 generalize t.links = l at *
 go_enter Try.func180, Try.ntmps180
 go_wp2
 go_loopg [12] l.length (fun gk i wr => ∃ k : Nat, gk + k = l.length ∧ i = .int .i64 k ∧ Hid (linkFrom r d k (l.drop k) = linkFrom r d 0 l) ∧ Ext (w.alloc (.cells #[v1, .slice o l.length cap] 41)) wr)
 case atStart => exact ⟨0, rfl, rfl, Lib.hid rfl, Ext.refl _⟩
 case round =>
  obtain ⟨k, hgk, rfl, HK, hx⟩ := hrel
  have hc0 := blk2 (Ext.block hx HB.out)
  by_cases hlt : k < l.length
  ·
   obtain ⟨b, off, rfl, hc⟩ := Lnk.at (hv.ext hx) k hlt
   have hg' : gk - 1 + (k + 1) = l.length ∧ gk - 1 < gk := by omega
   have HG := Lib.hid hg'; clear hg' hgk
   go_wp2_with fail
   refine (i_usesInterface l[k] r d _).mono ?_
   rintro e w2 ⟨rfl, k2⟩
   have hx2 := (hx.alloc _).trans k2
   cases hu : usesIf l[k] r d
   ·
    have HK2 := Lib.hid ((linkFrom_no hlt hu).symm.trans HK.out)
    go_wp2_with fail
    go_roundg (gk - 1)
    case measure => exact HG.out.2
    case rel => exact ⟨k + 1, HG.out.1, by go_num, HK2, hx2⟩
   ·
    have HY := Lib.hid ((HLI.out.trans HK.out.symm).trans (linkFrom_yes hlt hu))
    go_wp2_with fail
    go_ret
    exact ⟨ret_int HY.out.symm, hx0.trans hx2⟩
  ·
   have HY := Lib.hid (HLI.out.trans (HK.out.symm.trans (show _ = (-1 : Int) by rw [List.drop_of_length_le (by omega)]; rfl)))
   go_wp2
   go_ret
   exact ⟨ret_int HY.out.symm, hx0.trans hx⟩
end
section
open Go.ChangeShapes Go.WideShapes Go.ChangeAt Go.RowKit Go.Deep
set_option maxHeartbeats 400000 in
theorem i_Mod (n : Int) (w : World) :
  Calls Try.prog 243 #[.int .i64 n, .int .i64 2147483647] w fun e w' => e = .returned (.int .i64 (n % 2147483647)) ∧ w = w' := by
 go_enter Try.func243, Try.ntmps243

 have hb := tmod_bd n
 obtain ⟨hb1, hb2⟩ := hb
 have HM := Lib.hid (mod_pos n)
 have HM2 := Lib.hid (mod_pos' n)
 go_wp2_with (go_at_call 110; refine (i_InRange _ _ _ _).mono ?_; rintro e w' ⟨rfl, rfl⟩)
 all_goals
  first
  | (go_ret; first | exact ⟨ret_int HM.out, rfl⟩ | exact ⟨ret_int HM2.out, rfl⟩)
  | (exfalso; rename_i h; revert h; decide)
set_option maxHeartbeats 1000000 in
theorem i_Digest (l : List Int) (v : Value) (w : World) (hv : RdS Rep.int w v l) :
  Calls Try.prog 236 #[v] w fun e w' => e = .returned (.int .i64 (digest l)) ∧ w = w' := by
 obtain ⟨o, cap, rfl, hsm⟩ := hv.shape
 go_enter Try.func236, Try.ntmps236

 go_wp2
 go_loop [3, 8] (fun d i => ∃ k : Nat, k ≤ l.length ∧ i = .int .i64 k ∧ d = .int .i64 (digest (l.take k))) (fun _ i => l.length - (intOf i).toNat)
 case atStart => exact ⟨0, Nat.zero_le _, rfl, rfl⟩
 case round =>
  obtain ⟨k, hk, rfl, rfl⟩ := hrel
  by_cases hlt : k < l.length
  ·
   obtain ⟨b, off, rfl, hc⟩ := ints_at hv k hlt
   have HS := Lib.hid (digest_snoc hlt)
   obtain ⟨d1, d2⟩ := digest_res (l.take k)
   generalize digest (l.take k) = d at *
   go_wp2_with fail
   refine (i_Mod l[k] _).mono ?_
   rintro e w' ⟨rfl, rfl⟩
   have hm1 : 0 ≤ l[k] % 2147483647 := by omega
   have hm2 : l[k] % 2147483647 < 2147483647 := by omega
   go_wp2_with fail
   go_round
   case rel => exact ⟨k + 1, by omega, by go_num, by rw [HS.out]; rfl⟩
   case measure => simp [intOf]; omega
  ·
   go_wp2
   go_ret
   exact ⟨ret_int (by rw [List.take_of_length_le (by omega)]), rfl⟩
set_option maxHeartbeats 1000000 in
theorem i_ComputeMAC (key : Int) (l : List Int) (v : Value) (w : World) (hv : RdS Rep.int w v l) (hl : l.length ≤ 1048576) :
  Calls Try.prog 225 #[.int .i64 key, v] w fun e w' => e = .returned (.int .i64 (macOf key l)) ∧ Ext w w' := by
 obtain ⟨E⟩ := elemInt
 obtain ⟨o, cap, rfl, hsm⟩ := hv.shape
 have h1 : Ext w (w.alloc (.cells #[.int .i64 key] 3)) := (Ext.refl _).alloc _
 have ho1 := OwnF.lit (f := intF) intFlen w.heap.size 3 w [key] (Nat.le_refl _) (by simp [maxLen])
 have hr1 := hv.ext h1
 go_enter Try.func225, Try.ntmps225

 go_wp2_with (at_builtin; refine appS E intFlen intOne rfl _ _ rfl l rfl ho1 rfl hr1 (by simp; omega) (by simp [maxLen]; omega) (by simp) ?_)
 intro v2 w2 ho2 hg2
 have h2 : Ext w w2 := h1.app hg2 ho1 (Nat.le_refl _)
 have h3 : Ext w2 (w2.alloc (.cells #[.int .i64 key] 3)) := (Ext.refl _).alloc _
 clear hg2 hr1
 go_wp2_with (at_builtin; refine app1 E intFlen intOne rfl _ _ rfl key rfl (ho2.ext h3) rfl (by exact blk_list (intF key) (blk_new w2 _)) (by simp; omega) (by simp [maxLen]; omega) (by exact (h2.trans h3).size) ?_)
 intro v4 w4 ho4 hg4
 have h4 : Ext w w4 := (h2.trans h3).app hg4 ho2 (Nat.le_refl _)
 clear hg4
 go_wp2_with fail
 refine (i_Digest _ _ _ (ints_rep ho4)).mono ?_
 rintro e w5 ⟨rfl, rfl⟩
 go_wp2_with fail
 go_ret
 exact ⟨rfl, h4⟩
set_option maxHeartbeats 400000 in
theorem i_HopMAC (key ts beta : Int) (h : Hop) (w : World) :
  Calls Try.prog 194 #[.int .i64 key, .int .i64 ts, .int .i64 beta, .agg #[.int .i64 h.asn, .int .i64 h.ing, .int .i64 h.eg, .int .i64 h.exp, .int .i64 h.mac]] w fun e w' => e = .returned (.int .i64 (hopMac key ts beta h)) ∧ Ext w w' := by
 have h1 : Ext w (w.alloc (.cells #[.int .i64 h.asn, .int .i64 h.ing, .int .i64 h.eg, .int .i64 h.exp, .int .i64 h.mac] 146)) := (Ext.refl _).alloc _
 have ho1 := OwnF.lit (f := intF) intFlen 0 3 (w.alloc (.cells #[.int .i64 h.asn, .int .i64 h.ing, .int .i64 h.eg, .int .i64 h.exp, .int .i64 h.mac] 146)) [ts, beta, h.asn, h.ing, h.eg, h.exp] (Nat.zero_le _) (by simp [maxLen])
 have h2 := h1.alloc (.cells #[.int .i64 ts, .int .i64 beta, .int .i64 h.asn, .int .i64 h.ing, .int .i64 h.eg, .int .i64 h.exp] 3)
 have hr : RdS Rep.int ((w.alloc (.cells #[.int .i64 h.asn, .int .i64 h.ing, .int .i64 h.eg, .int .i64 h.exp, .int .i64 h.mac] 146)).alloc (.cells #[.int .i64 ts, .int .i64 beta, .int .i64 h.asn, .int .i64 h.ing, .int .i64 h.eg, .int .i64 h.exp] 3)) (.slice (some ⟨w.heap.size + 1, 0, none⟩) 6 6) [ts, beta, h.asn, h.ing, h.eg, h.exp] := by
  have h := ints_rep ho1
  rw [nblk_alloc] at h
  exact h
 clear ho1
 go_enter Try.func194, Try.ntmps194

 go_wp2_with fail
 refine (i_ComputeMAC key [ts, beta, h.asn, h.ing, h.eg, h.exp] _ _ hr (by simp)).mono ?_
 rintro e w3 ⟨rfl, h3⟩
 go_wp2_with fail
 go_ret
 exact ⟨rfl, h2.trans h3⟩
set_option maxHeartbeats 1000000 in
theorem i_ValidHop (h : Hop) (w : World) :
  Calls Try.prog 192 #[.agg #[.int .i64 h.asn, .int .i64 h.ing, .int .i64 h.eg, .int .i64 h.exp, .int .i64 h.mac]] w fun e w' => e = .returned (.bool (validHop h)) ∧ Ext w w' := by
 go_enter Try.func192, Try.ntmps192

 go_wp2_with (first | (go_at_call 110; refine (i_InRange _ _ _ _).mono ?_; rintro e w' ⟨rfl, rfl⟩) | (go_at_call 111; refine (i_isResidue _ _).mono ?_; rintro e w' ⟨rfl, rfl⟩))
 all_goals
  go_ret
  refine ⟨ret_bool ?_, (Ext.refl _).alloc _⟩
  simp [validHop, *]
set_option maxHeartbeats 1000000 in
theorem s_ValidHop (h : Hop) (w : World) :
  Calls Try.prog 132 #[.agg #[.int .i64 h.asn, .int .i64 h.ing, .int .i64 h.eg, .int .i64 h.exp, .int .i64 h.mac]] w fun e w' => e = .returned (.bool (validHop h)) ∧ Ext w w' := by
 go_enter Try.func132, Try.ntmps132

 go_wp2_with (first | (go_at_call 123; refine (s_l1In _ _ _ _).mono ?_; rintro e w' ⟨rfl, rfl⟩) | (go_at_call 130; refine (s_l3Ok _ _).mono ?_; rintro e w' ⟨rfl, rfl⟩))
 all_goals
  go_ret
  refine ⟨ret_bool ?_, (Ext.refl _).alloc _⟩
  simp [validHop, *]
set_option maxRecDepth 100000 in
set_option maxHeartbeats 2000000 in
theorem i_VerifyHop (t : Topo) (v1 v2 : Value) (ts beta : Int) (h : Hop) (w : World) (ha : RdS ASd.rep w v1 t.ases) :
  Calls Try.prog 136 #[.agg #[v1, v2], .int .i64 ts, .int .i64 beta, .agg #[.int .i64 h.asn, .int .i64 h.ing, .int .i64 h.eg, .int .i64 h.exp, .int .i64 h.mac]] w fun e w' => e = .returned (.bool (verHop t ts beta h)) ∧ Ext w w' := by
 obtain ⟨o, cap, rfl, hsm⟩ := ha.shape
 have hx0 := ext2 w (.cells #[.slice o t.ases.length cap, v2] 41) (.cells #[.int .i64 h.asn, .int .i64 h.ing, .int .i64 h.eg, .int .i64 h.exp, .int .i64 h.mac] 146)
 have HB := Lib.hid (al2 w (.cells #[.slice o t.ases.length cap, v2] 41) (.cells #[.int .i64 h.asn, .int .i64 h.ing, .int .i64 h.eg, .int .i64 h.exp, .int .i64 h.mac] 146))
 go_enter Try.func136, Try.ntmps136

 go_wp2
 have hc1 := blk2 HB.out.1
 have hc2 := blk5 HB.out.2
 cases h1 : validHop h
 ·
  have HE := Lib.hid (show verHop t ts beta h = false by unfold verHop; rw [h1]; rfl)
  refine wp_region_ext (by kernel_rfl) (by kernel_rfl) ?_
  have q0 := ExtW.cell (hc1.1)
  have q1 := ExtW.cell (hc1.2)
  have q2 := ExtW.cell (hc2.1)
  have q3 := ExtW.cell (hc2.2.1)
  have q4 := ExtW.cell (hc2.2.2.1)
  have q5 := ExtW.cell (hc2.2.2.2.1)
  have q6 := ExtW.cell (hc2.2.2.2.2)
  repeat (first | go_big_quiet_step (((first | (go_at_call 192; exact Calls.ext_of (i_ValidHop h _))))) | quiet_step (((first | (go_at_call 192; exact Calls.ext_of (i_ValidHop h _))))))
  refine wpQuiet_nil ?_
  intro w9 hw9
  have h9 := ExtW.out hw9
  clear hw9 q0 q1 q2 q3 q4 q5 q6
  clear hc1 hc2
  go_wp2_with fail
  go_ret
  exact ⟨ret_bool HE.out.symm, hx0.trans h9⟩
 ·
  cases h2 : isAs t h.asn
  ·
   have HE := Lib.hid (show verHop t ts beta h = false by unfold verHop; rw [h1, h2]; rfl)
   refine wp_region_ext (by kernel_rfl) (by kernel_rfl) ?_
   have q0 := ExtW.cell (hc1.1)
   have q1 := ExtW.cell (hc1.2)
   have q2 := ExtW.cell (hc2.1)
   have q3 := ExtW.cell (hc2.2.1)
   have q4 := ExtW.cell (hc2.2.2.1)
   have q5 := ExtW.cell (hc2.2.2.2.1)
   have q6 := ExtW.cell (hc2.2.2.2.2)
   repeat (first | go_big_quiet_step (((first | (go_at_call 192; exact Calls.ext_of (i_ValidHop h _)) | (go_at_call 103; exact Calls.ext_of (i_isAS t _ _ h.asn _ ((ha.ext hx0).ext (ExtW.h _))))))) | quiet_step (((first | (go_at_call 192; exact Calls.ext_of (i_ValidHop h _)) | (go_at_call 103; exact Calls.ext_of (i_isAS t _ _ h.asn _ ((ha.ext hx0).ext (ExtW.h _))))))))
   refine wpQuiet_nil ?_
   intro w9 hw9
   have h9 := ExtW.out hw9
   clear hw9 q0 q1 q2 q3 q4 q5 q6
   clear hc1 hc2
   go_wp2_with fail
   go_ret
   exact ⟨ret_bool HE.out.symm, hx0.trans h9⟩
  ·
   obtain ⟨hp1, hp2⟩ := isAs_lt h2
   have HE := Lib.hid (show verHop t ts beta h = (h.mac == hopMac t.ases[h.asn.toNat].key ts beta h) by unfold verHop; rw [h1, h2, asAt_at hp1 hp2]; rfl)
   obtain ⟨b, off, rfl, hc⟩ := ASd.at (ha.ext hx0) h.asn.toNat hp2
   have hp3 : h.asn < t.ases.length := by omega
   refine wp_region_ext (by kernel_rfl) (by kernel_rfl) ?_
   have q0 := ExtW.cell (hc1.1)
   have q1 := ExtW.cell (hc1.2)
   have q2 := ExtW.cell (hc2.1)
   have q3 := ExtW.cell (hc2.2.1)
   have q4 := ExtW.cell (hc2.2.2.1)
   have q5 := ExtW.cell (hc2.2.2.2.1)
   have q6 := ExtW.cell (hc2.2.2.2.2)
   have q7 := ExtW.cell (hc.1)
   have q8 := ExtW.cell (hc.2.1)
   have q9 := ExtW.cell (hc.2.2)
   repeat (first | go_big_quiet_step (((first | (go_at_call 192; exact Calls.ext_of (i_ValidHop h _)) | (go_at_call 103; exact Calls.ext_of (i_isAS t _ _ h.asn _ ((ha.ext hx0).ext (ExtW.h _)))) | (go_at_call 194; exact Calls.ext_of (i_HopMAC _ _ _ h _))))) | quiet_step (((first | (go_at_call 192; exact Calls.ext_of (i_ValidHop h _)) | (go_at_call 103; exact Calls.ext_of (i_isAS t _ _ h.asn _ ((ha.ext hx0).ext (ExtW.h _)))) | (go_at_call 194; exact Calls.ext_of (i_HopMAC _ _ _ h _))))))
   refine wpQuiet_nil ?_
   intro w9 hw9
   have h9 := ExtW.out hw9
   clear hw9 q0 q1 q2 q3 q4 q5 q6 q7 q8 q9
   clear hc1 hc2
   go_wp2_with fail
   go_ret
   exact ⟨ret_bool HE.out.symm, hx0.trans h9⟩
set_option maxRecDepth 100000 in
set_option maxHeartbeats 2000000 in
theorem s_VerifyHop (t : Topo) (v1 v2 : Value) (ts beta : Int) (h : Hop) (w : World) (ha : RdS ASd.rep w v1 t.ases) :
  Calls Try.prog 137 #[.agg #[v1, v2], .int .i64 ts, .int .i64 beta, .agg #[.int .i64 h.asn, .int .i64 h.ing, .int .i64 h.eg, .int .i64 h.exp, .int .i64 h.mac]] w fun e w' => e = .returned (.bool (verHop t ts beta h)) ∧ Ext w w' := by
 obtain ⟨o, cap, rfl, hsm⟩ := ha.shape
 have hx0 := ext2 w (.cells #[.slice o t.ases.length cap, v2] 41) (.cells #[.int .i64 h.asn, .int .i64 h.ing, .int .i64 h.eg, .int .i64 h.exp, .int .i64 h.mac] 146)
 have HB := Lib.hid (al2 w (.cells #[.slice o t.ases.length cap, v2] 41) (.cells #[.int .i64 h.asn, .int .i64 h.ing, .int .i64 h.eg, .int .i64 h.exp, .int .i64 h.mac] 146))
 go_enter Try.func137, Try.ntmps137

 go_wp2
 have hc1 := blk2 HB.out.1
 have hc2 := blk5 HB.out.2
 cases h1 : validHop h
 ·
  have HE := Lib.hid (show verHop t ts beta h = false by unfold verHop; rw [h1]; rfl)
  refine wp_region_ext (by kernel_rfl) (by kernel_rfl) ?_
  have q0 := ExtW.cell (hc1.1)
  have q1 := ExtW.cell (hc1.2)
  have q2 := ExtW.cell (hc2.1)
  have q3 := ExtW.cell (hc2.2.1)
  have q4 := ExtW.cell (hc2.2.2.1)
  have q5 := ExtW.cell (hc2.2.2.2.1)
  have q6 := ExtW.cell (hc2.2.2.2.2)
  repeat (first | go_big_quiet_step (((first | (go_at_call 132; exact Calls.ext_of (s_ValidHop h _))))) | quiet_step (((first | (go_at_call 132; exact Calls.ext_of (s_ValidHop h _))))))
  refine wpQuiet_nil ?_
  intro w9 hw9
  have h9 := ExtW.out hw9
  clear hw9 q0 q1 q2 q3 q4 q5 q6
  clear hc1 hc2
  go_wp2_with fail
  go_ret
  exact ⟨ret_bool HE.out.symm, hx0.trans h9⟩
 ·
  cases h2 : isAs t h.asn
  ·
   have HE := Lib.hid (show verHop t ts beta h = false by unfold verHop; rw [h1, h2]; rfl)
   refine wp_region_ext (by kernel_rfl) (by kernel_rfl) ?_
   have q0 := ExtW.cell (hc1.1)
   have q1 := ExtW.cell (hc1.2)
   have q2 := ExtW.cell (hc2.1)
   have q3 := ExtW.cell (hc2.2.1)
   have q4 := ExtW.cell (hc2.2.2.1)
   have q5 := ExtW.cell (hc2.2.2.2.1)
   have q6 := ExtW.cell (hc2.2.2.2.2)
   repeat (first | go_big_quiet_step (((first | (go_at_call 132; exact Calls.ext_of (s_ValidHop h _)) | (go_at_call 133; exact Calls.ext_of (s_l5Realm t _ _ h.asn _ ((ha.ext hx0).ext (ExtW.h _))))))) | quiet_step (((first | (go_at_call 132; exact Calls.ext_of (s_ValidHop h _)) | (go_at_call 133; exact Calls.ext_of (s_l5Realm t _ _ h.asn _ ((ha.ext hx0).ext (ExtW.h _))))))))
   refine wpQuiet_nil ?_
   intro w9 hw9
   have h9 := ExtW.out hw9
   clear hw9 q0 q1 q2 q3 q4 q5 q6
   clear hc1 hc2
   go_wp2_with fail
   go_ret
   exact ⟨ret_bool HE.out.symm, hx0.trans h9⟩
  ·
   obtain ⟨hp1, hp2⟩ := isAs_lt h2
   have HE := Lib.hid (show verHop t ts beta h = (h.mac == hopMac t.ases[h.asn.toNat].key ts beta h) by unfold verHop; rw [h1, h2, asAt_at hp1 hp2]; rfl)
   obtain ⟨b, off, rfl, hc⟩ := ASd.at (ha.ext hx0) h.asn.toNat hp2
   have hp3 : h.asn < t.ases.length := by omega
   refine wp_region_ext (by kernel_rfl) (by kernel_rfl) ?_
   have q0 := ExtW.cell (hc1.1)
   have q1 := ExtW.cell (hc1.2)
   have q2 := ExtW.cell (hc2.1)
   have q3 := ExtW.cell (hc2.2.1)
   have q4 := ExtW.cell (hc2.2.2.1)
   have q5 := ExtW.cell (hc2.2.2.2.1)
   have q6 := ExtW.cell (hc2.2.2.2.2)
   have q7 := ExtW.cell (hc.1)
   have q8 := ExtW.cell (hc.2.1)
   have q9 := ExtW.cell (hc.2.2)
   repeat (first | go_big_quiet_step (((first | (go_at_call 132; exact Calls.ext_of (s_ValidHop h _)) | (go_at_call 133; exact Calls.ext_of (s_l5Realm t _ _ h.asn _ ((ha.ext hx0).ext (ExtW.h _)))) | (go_at_call 195; exact Calls.ext_of (s_HopMAC _ _ _ h _))))) | quiet_step (((first | (go_at_call 132; exact Calls.ext_of (s_ValidHop h _)) | (go_at_call 133; exact Calls.ext_of (s_l5Realm t _ _ h.asn _ ((ha.ext hx0).ext (ExtW.h _)))) | (go_at_call 195; exact Calls.ext_of (s_HopMAC _ _ _ h _))))))
   refine wpQuiet_nil ?_
   intro w9 hw9
   have h9 := ExtW.out hw9
   clear hw9 q0 q1 q2 q3 q4 q5 q6 q7 q8 q9
   clear hc1 hc2
   go_wp2_with fail
   go_ret
   exact ⟨ret_bool HE.out.symm, hx0.trans h9⟩
end
section
open Go.ChangeShapes Go.WideShapes Go.ChangeAt Go.RowKit Go.Deep
set_option maxRecDepth 100000 in
set_option maxHeartbeats 1000000 in
theorem i_ChainAdd (b : Int) (l : List Int) (v : Value) (w : World) (hv : RdS Rep.int w v l) :
  Calls Try.prog 188 #[.int .i64 b, v] w fun e w' => e = .returned (.int .i64 (chainAdd b l)) ∧ w = w' := by
 obtain ⟨o, cap, rfl, hsm⟩ := hv.shape
 go_enter Try.func188, Try.ntmps188
 go_wp2
 go_loopg [0, 9] l.length (fun gk bb i wr => ∃ (k : Nat), gk + k = l.length ∧ i = .int .i64 k ∧ bb = .int .i64 (chainAdd b (l.take k)) ∧ w = wr)
 case atStart => exact ⟨0, rfl, rfl, rfl, rfl⟩
 case round =>
  obtain ⟨k, hgk, rfl, rfl, rfl⟩ := hrel
  by_cases hlt : k < l.length
  ·
   obtain ⟨b1, off, rfl, hcell⟩ := ints_at hv k hlt
   have hg0 : gk - 1 + (k + 1) = l.length ∧ gk - 1 < gk := by omega
   have HG := Lib.hid hg0; clear hg0 hgk
   have HN := Lib.hid (chainAdd_snoc (b := b) hlt)
   go_wp2_with fail
   refine (i_AddMod _ _ _).mono ?_
   rintro e w1 ⟨rfl, rfl⟩
   go_wp2_with fail
   go_roundg (gk - 1)
   case measure => exact HG.out.2
   case rel => exact ⟨k + 1, HG.out.1, by go_num, by rw [HN.out], rfl⟩
  ·
   have HE := Lib.hid (show chainAdd b (l.take k) = chainAdd b l by rw [List.take_of_length_le (by omega)])
   go_wp2_with fail
   go_ret
   exact ⟨ret_int HE.out, rfl⟩
end
section
open Go.ChangeShapes Go.WideShapes Go.ChangeAt Go.RowKit Go.Deep
set_option maxHeartbeats 1000000 in
theorem i_RemoteEnd (t : Topo) (v1 v2 : Value) (r d : Int) (w : World) (hk : RdS Lnk.rep w v2 t.links) :
  Calls Try.prog 106 #[.agg #[v1, v2], .int .i64 r, .int .i64 d] w fun e w' => e = .returned (.tuple #[.int .i64 (remEnd t r d).1, .int .i64 (remEnd t r d).2]) ∧ Ext w w' := by
 obtain ⟨o, cap, rfl, hsm⟩ := hk.shape
 have hx0 : Ext w (w.alloc (.cells #[v1, .slice o t.links.length cap] 41)) := (Ext.refl _).alloc _
 have HB0 := Lib.hid (blk_new w (.cells #[v1, .slice o t.links.length cap] 41))
 go_enter Try.func106, Try.ntmps106
 have cf1 := blk2 HB0.out
 go_wp2_with fail
 refine (i_LinkIndex t _ _ r d _ (hk.ext hx0)).mono ?_
 rintro e w1 ⟨rfl, hz1⟩
 have hil := linkIdx_lt t.links r d
 by_cases hn : linkIdx t.links r d < 0
 ·
  have HE := Lib.hid (remEnd_no hn)
  try clear cf1
  have cf2 := blk2 (Ext.block hz1 HB0.out)
  go_wp2_with fail
  go_ret2
  exact ⟨ret_pair HE.out, (hx0.trans hz1)⟩
 ·
  have hin : (linkIdx t.links r d).toNat < t.links.length := by omega
  have HE := Lib.hid (remEnd_at hn hin)
  have hn0 : 0 ≤ linkIdx t.links r d := by omega
  obtain ⟨b, off, rfl, hc⟩ := Lnk.at (hk.ext (hx0.trans hz1)) _ hin
  generalize linkIdx t.links r d = i at *
  generalize t.links[i.toNat] = x at *
  try clear cf1
  have cf3 := blk2 (Ext.block hz1 HB0.out)
  have hx1 : Ext w1 (w1.alloc (.cells #[.int .i64 x.a, .int .i64 x.ai, .int .i64 x.b, .int .i64 x.bi, .int .i64 x.kind] 183)) := (Ext.refl _).alloc _
  have HB1 := Lib.hid (blk_new w1 (.cells #[.int .i64 x.a, .int .i64 x.ai, .int .i64 x.b, .int .i64 x.bi, .int .i64 x.kind] 183))
  cases b1 : (x.a == r) <;> cases b2 : (x.ai == d)
  all_goals
   go_wp2_with fail
   have cl := blk5 HB1.out
   refine wp_region_ext (by kernel_rfl) (by kernel_rfl) ?_
   have q0 := ExtW.cell (cl.1)
   have q1 := ExtW.cell (cl.2.1)
   have q2 := ExtW.cell (cl.2.2.1)
   have q3 := ExtW.cell (cl.2.2.2.1)
   have q4 := ExtW.cell (cl.2.2.2.2)
   repeat (first | go_big_quiet_step (fail) | quiet_step (fail))
   refine wpQuiet_nil ?_
   intro w9 hw9
   have h9 := ExtW.out hw9
   clear hw9 q0 q1 q2 q3 q4 cl
   go_wp2_with fail
   go_ret2
   exact ⟨ret_pair (by rw [HE.out, b1, b2]; rfl), ((hx0.trans hz1).trans hx1).trans h9⟩
set_option maxRecDepth 100000 in
set_option maxHeartbeats 4000000 in
theorem i_hopsOk (t : Topo) (v1 v2 : Value) (l : List Hop) (v : Value) (w : World) (ha : RdS ASd.rep w v1 t.ases) (hv : RdS Hop.rep w v l) :
  Calls Try.prog 129 #[.agg #[v1, v2], v] w fun e w' => e = .returned (.bool (hopsOk t l)) ∧ Ext w w' := by
 obtain ⟨o, cap, rfl, hsm⟩ := hv.shape
 have hcap := hv.capLe
 have hx0 : Ext w (w.alloc (.cells #[v1, v2] 41)) := (Ext.refl _).alloc _
 have HB0 := Lib.hid (blk_new w (.cells #[v1, v2] 41))
 go_enter Try.func129, Try.ntmps129
 have cf1 := blk2 HB0.out
 go_wp2_with fail
 refine (i_InRange _ _ _ _).mono ?_
 rintro e _ ⟨rfl, rfl⟩
 cases hr : inR (l.length : Int) 1 8
 ·
  have HE := Lib.hid (show hopsOk t l = false by unfold hopsOk; rw [hr]; rfl)
  go_wp2_with fail
  go_ret
  exact ⟨ret_bool HE.out.symm, hx0⟩
 ·
  have HL := Lib.hid (show hopsOk t l = allTo (hopFresh t l) l.length by unfold hopsOk; rw [hr]; rfl)
  clear hr
  go_wp2_with fail
  go_loopg [15] l.length (fun gk i wr => ∃ k : Nat, gk + k = l.length ∧ i = .int .i64 k ∧ Hid (allTo (hopFresh t l) k = true) ∧ Ext (w.alloc (.cells #[v1, v2] 41)) wr)
  case atStart => exact ⟨0, rfl, rfl, Lib.hid rfl, Ext.refl _⟩
  case round =>
   obtain ⟨k, hgk, rfl, HK, hx⟩ := hrel
   by_cases hlt : k < l.length
   ·
    have HG := Lib.hid (show gk - 1 + (k + 1) = l.length ∧ gk - 1 < gk by omega); clear hgk
    have HAT := Lib.hid (hopAt_at hlt)
    obtain ⟨b, off, rfl, hc⟩ := Hop.at (hv.ext (hx0.trans hx)) k hlt
    try clear cf1
    have cf2 := blk2 (Ext.block hx HB0.out)
    generalize hlk : l[k] = h at *
    have HLK := Lib.hid hlk; clear hlk
    have hx1 : Ext wr (wr.alloc (.cells #[.int .i64 h.asn, .int .i64 h.ing, .int .i64 h.eg, .int .i64 h.exp, .int .i64 h.mac] 146)) := (Ext.refl _).alloc _
    have HB1 := Lib.hid (blk_new wr (.cells #[.int .i64 h.asn, .int .i64 h.ing, .int .i64 h.eg, .int .i64 h.exp, .int .i64 h.mac] 146))
    go_wp2_with fail
    refine (i_ValidHop h _).mono ?_
    rintro e w2 ⟨rfl, hz2⟩
    cases b1 : validHop h
    ·
     have HE := Lib.hid (HL.out.trans (allTo_no hlt (show hopFresh t l k = false by unfold hopFresh; rw [HAT.out]; rw [b1]; rfl)))
     have cf3 := blk2 (Ext.block ((hx.trans hx1).trans hz2) HB0.out)
     have cf4 := blk5 (Ext.block hz2 HB1.out)
     go_wp2_with fail
     go_ret
     exact ⟨ret_bool HE.out.symm, (((hx0.trans hx).trans hx1).trans hz2)⟩
    ·
     have cf5 := blk2 (Ext.block ((hx.trans hx1).trans hz2) HB0.out)
     have cf6 := blk5 (Ext.block hz2 HB1.out)
     go_wp2_with fail
     refine (i_isAS t _ _ h.asn _ (ha.ext (((hx0.trans hx).trans hx1).trans hz2))).mono ?_
     rintro e w3 ⟨rfl, hz3⟩
     cases b2 : isAs t h.asn
     ·
      have HE := Lib.hid (HL.out.trans (allTo_no hlt (show hopFresh t l k = false by unfold hopFresh; rw [HAT.out]; rw [b1, b2]; rfl)))
      try clear cf5
      try clear cf6
      have cf7 := blk2 (Ext.block (((hx.trans hx1).trans hz2).trans hz3) HB0.out)
      have cf8 := blk5 (Ext.block (hz2.trans hz3) HB1.out)
      go_wp2_with fail
      go_ret
      exact ⟨ret_bool HE.out.symm, ((((hx0.trans hx).trans hx1).trans hz2).trans hz3)⟩
     ·
      try clear cf5
      try clear cf6
      have cf9 := blk2 (Ext.block (((hx.trans hx1).trans hz2).trans hz3) HB0.out)
      have cf10 := blk5 (Ext.block (hz2.trans hz3) HB1.out)
      go_wp2_with fail
      obtain ⟨go, hgo⟩ : ∃ go : Nat, go = gk := ⟨_, rfl⟩
      subst hgo
      obtain ⟨wo, hwo⟩ : ∃ wo : World, wo = wr := ⟨_, rfl⟩
      subst hwo
      have hkc : k ≤ cap := by omega
      go_loopg [34] k (fun gk j ws => ∃ m : Nat, gk + m = k ∧ j = .int .i64 m ∧ Hid (hasI ((l.map (·.asn)).take m) h.asn = false) ∧ Ext w3 ws)
      case atStart => exact ⟨0, rfl, rfl, Lib.hid rfl, Ext.refl _⟩
      case round =>
       obtain ⟨m, hgm, rfl, HM, hy⟩ := hrel
       by_cases hmk : m < k
       ·
        have hml : m < l.length := by omega
        have HG2 := Lib.hid (show gk - 1 + (m + 1) = k ∧ gk - 1 < gk by omega); clear hgm
        obtain ⟨b2, off2, he2, hd⟩ := Hop.at (hv.ext (((((hx0.trans hx).trans hx1).trans hz2).trans hz3).trans hy)) m hml
        cases he2
        have HS := Lib.hid (any_snoc (fun x => x == h.asn) (l := l.map (·.asn)) (k := m) (by simpa using hml))
        try clear cf9
        try clear cf10
        have cf11 := blk2 (Ext.block ((((hx.trans hx1).trans hz2).trans hz3).trans hy) HB0.out)
        have cf12 := blk5 (Ext.block ((hz2.trans hz3).trans hy) HB1.out)
        have cy := blk5 (Ext.block (((hz2.trans hz3).trans hy).trans ((Ext.refl wr).alloc (.cells #[.int .i64 l[m].asn, .int .i64 l[m].ing, .int .i64 l[m].eg, .int .i64 l[m].exp, .int .i64 l[m].mac] 146))) HB1.out)
        cases b3 : (l[m].asn == h.asn)
        ·
         have HM2 := Lib.hid (show hasI ((l.map (·.asn)).take (m + 1)) h.asn = false by unfold hasI at HM ⊢; rw [HS.out, HM.out]; simpa using b3)
         go_wp2_with fail
         go_roundg (gk - 1)
         case measure => exact HG2.out.2
         case rel => exact ⟨m + 1, HG2.out.1, by go_num, HM2, hy.alloc _⟩
        ·
         have HE := Lib.hid (HL.out.trans (allTo_no hlt (show hopFresh t l k = false by unfold hopFresh; rw [HAT.out, b1, b2]; simp only [Bool.true_and, Bool.not_eq_false']; exact List.any_eq_true.2 ⟨l[m].asn, List.mem_take_iff_getElem.2 ⟨m, by simp; omega, by simp⟩, b3⟩)))
         go_wp2_with fail
         go_ret
         exact ⟨ret_bool HE.out.symm, (((((hx0.trans hx).trans hx1).trans hz2).trans hz3).trans hy).alloc _⟩
       ·
        obtain rfl : m = k := by omega
        have HK2 := Lib.hid (allTo_snoc HK.out (show hopFresh t l m = true by unfold hopFresh; rw [HAT.out, b1, b2, HM.out]; rfl))
        go_wp2
        go_roundg (go - 1)
        case measure => exact HG.out.2
        case rel => exact ⟨m + 1, HG.out.1, by go_num, HK2, ((((hx.trans hx1).trans hz2).trans hz3).trans hy)⟩
   ·
    obtain rfl : k = l.length := by omega
    have HE := Lib.hid (HL.out.trans HK.out)
    try clear cf1
    have cf13 := blk2 (Ext.block hx HB0.out)
    go_wp2_with fail
    go_ret
    exact ⟨ret_bool HE.out.symm, (hx0.trans hx)⟩
end
end Go.Proofs.Ytikbeiafobnblaa
