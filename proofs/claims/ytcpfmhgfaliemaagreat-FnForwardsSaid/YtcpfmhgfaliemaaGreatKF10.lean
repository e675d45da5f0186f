/- What these laws need: FnForwards: Contracts of digests, codes and hop fields, program and reference. Contracts of chains of residues, of comparing rows of numbers, and of keys, program and reference. Contracts of the far ends of links, of rows of hop fields and of parts, program and reference. Contracts of kinds of interfaces, of steps that are allowed, and of members of a set, program and reference. The steps of a path, once more: from a place in it on, hop by hop. -/
import Derived.Deep.LoopGhost
import Derived.Test.YtcpfmhgfaliemaaGreatKF9
namespace Go.Proofs.YtcpfmhgfaliemaaGreat
section
open Go.ChangeShapes Go.WideShapes Go.ChangeAt Go.RowKit Go.Deep
theorem ExtW.out {w w1 : World} (h : ∃ x : ExtW w, w1 = x.w') : Ext w w1 := by obtain ⟨y, rfl⟩ := h; exact y.h
theorem tmod_bd (n : Int) : -2147483647 < n.tmod 2147483647 ∧ n.tmod 2147483647 < 2147483647 := by
 rw [Int.tmod_eq_emod]; split <;> omega
theorem mod_pos (n : Int) : (n.tmod 2147483647 + 2147483647) % 2147483647 = n % 2147483647 := by
 rw [Int.add_emod_right, Int.tmod_eq_emod]
 split <;> omega
theorem mod_pos' (n : Int) : (n.tmod 2147483647 + 2147483647).tmod 2147483647 = n % 2147483647 := by
 have := tmod_bd n; rw [Int.tmod_eq_emod_of_nonneg (by omega)]; exact mod_pos n
theorem digest_snoc {l : List Int} {k : Nat} (hk : k < l.length) : digest (l.take (k + 1)) = digStep (digest (l.take k)) l[k] := by
 unfold digest; rw [List.take_succ_eq_append_getElem hk, List.foldl_append]; rfl
theorem digest_res (l : List Int) : 0 ≤ digest l ∧ digest l ≤ 2147483646 := by
 rcases List.eq_nil_or_concat l with rfl | ⟨l', x, rfl⟩
 ·
  exact ⟨by decide, by decide⟩
 ·
  unfold digest; rw [List.concat_eq_append, List.foldl_append]; exact digStep_res _ x
set_option maxHeartbeats 400000 in
theorem i_Mod (n : Int) (w : World) :
  Calls Tryz.prog 262 #[.int .i64 n, .int .i64 2147483647] w fun e w' => e = .returned (.int .i64 (n % 2147483647)) ∧ w = w' := by
 go_enter Tryz.func262, Tryz.ntmps262

 have hb := tmod_bd n; obtain ⟨hb1, hb2⟩ := hb; have HM := Lib.hid (mod_pos n); have HM2 := Lib.hid (mod_pos' n)
 go_wp2_with (go_at_call 102; refine (i_InRange _ _ _ _).mono ?_; rintro e w' ⟨rfl, rfl⟩)
 all_goals
  first
  | (go_ret; first | exact ⟨ret_int HM.out, rfl⟩ | exact ⟨ret_int HM2.out, rfl⟩)
  | (exfalso; rename_i h; revert h; decide)
set_option maxHeartbeats 400000 in
theorem s_Mod (n : Int) (w : World) :
  Calls Tryz.prog 266 #[.int .i64 n, .int .i64 2147483647] w fun e w' => e = .returned (.int .i64 (n % 2147483647)) ∧ w = w' := by
 go_enter Tryz.func266, Tryz.ntmps266

 have hb := tmod_bd n; obtain ⟨hb1, hb2⟩ := hb; have HM := Lib.hid (mod_pos n); have HM2 := Lib.hid (mod_pos' n)
 go_wp2_with (go_at_call 103; refine (s_l1In _ _ _ _).mono ?_; rintro e w' ⟨rfl, rfl⟩)
 all_goals
  first
  | (go_ret; first | exact ⟨ret_int HM.out, rfl⟩ | exact ⟨ret_int HM2.out, rfl⟩)
  | (exfalso; rename_i h; revert h; decide)
set_option maxHeartbeats 1000000 in
theorem i_Digest (l : List Int) (v : Value) (w : World) (hv : RdS Rep.int w v l) :
  Calls Tryz.prog 255 #[v] w fun e w' => e = .returned (.int .i64 (digest l)) ∧ w = w' := by
 obtain ⟨o, cap, rfl, hsm⟩ := hv.shape
 go_enter Tryz.func255, Tryz.ntmps255

 go_wp2
 go_loop [3, 8] (fun d i => ∃ k : Nat, k ≤ l.length ∧ i = .int .i64 k ∧ d = .int .i64 (digest (l.take k))) (fun _ i => l.length - (intOf i).toNat)
 case atStart => exact ⟨0, Nat.zero_le _, rfl, rfl⟩
 case round =>
  obtain ⟨k, hk, rfl, rfl⟩ := hrel
  by_cases hlt : k < l.length
  ·
   obtain ⟨b, off, rfl, hc⟩ := ints_at hv k hlt; have HS := Lib.hid (digest_snoc hlt); obtain ⟨d1, d2⟩ := digest_res (l.take k); generalize digest (l.take k) = d at *
   go_wp2_with fail
   refine (i_Mod l[k] _).mono ?_; rintro e w' ⟨rfl, rfl⟩; have hm1 : 0 ≤ l[k] % 2147483647 := by omega
   have hm2 : l[k] % 2147483647 < 2147483647 := by omega
   go_wp2_with fail
   go_round
   case rel => exact ⟨k + 1, by omega, by go_num, by rw [HS.out]; rfl⟩
   case measure => simp [intOf]; omega
  ·
   go_wp2
   go_ret
   exact ⟨ret_int (by rw [List.take_of_length_le (by omega)]), rfl⟩
set_option maxHeartbeats 1000000 in
theorem s_Digest (l : List Int) (v : Value) (w : World) (hv : RdS Rep.int w v l) :
  Calls Tryz.prog 264 #[v] w fun e w' => e = .returned (.int .i64 (digest l)) ∧ w = w' := by
 obtain ⟨o, cap, rfl, hsm⟩ := hv.shape
 go_enter Tryz.func264, Tryz.ntmps264

 go_wp2
 go_loop [3, 4] (fun d i => ∃ k : Nat, k ≤ l.length ∧ i = .int .i64 k ∧ d = .int .i64 (digest (l.take k))) (fun _ i => l.length - (intOf i).toNat)
 case atStart => exact ⟨0, Nat.zero_le _, rfl, rfl⟩
 case round =>
  obtain ⟨k, hk, rfl, rfl⟩ := hrel
  by_cases hlt : k < l.length
  ·
   obtain ⟨b, off, rfl, hc⟩ := ints_at hv k hlt; have HS := Lib.hid (digest_snoc hlt); obtain ⟨d1, d2⟩ := digest_res (l.take k); generalize digest (l.take k) = d at *
   go_wp2_with fail
   refine (s_Mod l[k] _).mono ?_; rintro e w' ⟨rfl, rfl⟩; have hm1 : 0 ≤ l[k] % 2147483647 := by omega
   have hm2 : l[k] % 2147483647 < 2147483647 := by omega
   go_wp2_with fail
   go_round
   case rel => exact ⟨k + 1, by omega, by go_num, by rw [HS.out]; rfl⟩
   case measure => simp [intOf]; omega
  ·
   go_wp2
   go_ret
   exact ⟨ret_int (by rw [List.take_of_length_le (by omega)]), rfl⟩
set_option maxHeartbeats 1000000 in
theorem i_ComputeMAC (key : Int) (l : List Int) (v : Value) (w : World) (hv : RdS Rep.int w v l) (hl : l.length ≤ 1048576) :
  Calls Tryz.prog 231 #[.int .i64 key, v] w fun e w' => e = .returned (.int .i64 (macOf key l)) ∧ Ext w w' := by
 obtain ⟨E⟩ := elemInt; obtain ⟨o, cap, rfl, hsm⟩ := hv.shape; have h1 : Ext w (w.alloc (.cells #[.int .i64 key] 3)) := (Ext.refl _).alloc _; have ho1 := OwnF.lit (f := intF) intFlen w.heap.size 3 w [key] (Nat.le_refl _) (by simp [maxLen]); have hr1 := hv.ext h1
 go_enter Tryz.func231, Tryz.ntmps231

 go_wp2_with (at_builtin; refine appS E intFlen intOne rfl _ _ rfl l rfl ho1 rfl hr1 (by simp; omega) (by simp [maxLen]; omega) (by simp) ?_)
 intro v2 w2 ho2 hg2; have h2 : Ext w w2 := h1.app hg2 ho1 (Nat.le_refl _); have h3 : Ext w2 (w2.alloc (.cells #[.int .i64 key] 3)) := (Ext.refl _).alloc _; clear hg2 hr1
 go_wp2_with (at_builtin; refine app1 E intFlen intOne rfl _ _ rfl key rfl (ho2.ext h3) rfl (by exact blk_list (intF key) (blk_new w2 _)) (by simp; omega) (by simp [maxLen]; omega) (by exact (h2.trans h3).size) ?_)
 intro v4 w4 ho4 hg4; have h4 : Ext w w4 := (h2.trans h3).app hg4 ho2 (Nat.le_refl _); clear hg4
 go_wp2_with fail
 refine (i_Digest _ _ _ (ints_rep ho4)).mono ?_; rintro e w5 ⟨rfl, rfl⟩
 go_wp2_with fail
 go_ret
 exact ⟨rfl, h4⟩
set_option maxHeartbeats 1000000 in
theorem s_ComputeMAC (key : Int) (l : List Int) (v : Value) (w : World) (hv : RdS Rep.int w v l) (hl : l.length ≤ 1048576) :
  Calls Tryz.prog 261 #[.int .i64 key, v] w fun e w' => e = .returned (.int .i64 (macOf key l)) ∧ Ext w w' := by
 obtain ⟨E⟩ := elemInt; obtain ⟨o, cap, rfl, hsm⟩ := hv.shape; have h1 : Ext w (w.alloc (.cells #[.int .i64 key] 3)) := (Ext.refl _).alloc _; have ho1 := OwnF.lit (f := intF) intFlen w.heap.size 3 w [key] (Nat.le_refl _) (by simp [maxLen]); have hr1 := hv.ext h1
 go_enter Tryz.func261, Tryz.ntmps261

 go_wp2_with (at_builtin; refine appS E intFlen intOne rfl _ _ rfl l rfl ho1 rfl hr1 (by simp; omega) (by simp [maxLen]; omega) (by simp) ?_)
 intro v2 w2 ho2 hg2; have h2 : Ext w w2 := h1.app hg2 ho1 (Nat.le_refl _); have h3 : Ext w2 (w2.alloc (.cells #[.int .i64 key] 3)) := (Ext.refl _).alloc _; clear hg2 hr1
 go_wp2_with (at_builtin; refine app1 E intFlen intOne rfl _ _ rfl key rfl (ho2.ext h3) rfl (by exact blk_list (intF key) (blk_new w2 _)) (by simp; omega) (by simp [maxLen]; omega) (by exact (h2.trans h3).size) ?_)
 intro v4 w4 ho4 hg4; have h4 : Ext w w4 := (h2.trans h3).app hg4 ho2 (Nat.le_refl _); clear hg4
 go_wp2_with fail
 refine (s_Digest _ _ _ (ints_rep ho4)).mono ?_; rintro e w5 ⟨rfl, rfl⟩
 go_wp2_with fail
 go_ret
 exact ⟨rfl, h4⟩
set_option maxHeartbeats 400000 in
theorem i_HopMAC (key ts beta : Int) (h : Hop) (w : World) :
  Calls Tryz.prog 196 #[.int .i64 key, .int .i64 ts, .int .i64 beta, .agg #[.int .i64 h.asn, .int .i64 h.ing, .int .i64 h.eg, .int .i64 h.exp, .int .i64 h.mac]] w fun e w' => e = .returned (.int .i64 (hopMac key ts beta h)) ∧ Ext w w' := by
 have h1 : Ext w (w.alloc (.cells #[.int .i64 h.asn, .int .i64 h.ing, .int .i64 h.eg, .int .i64 h.exp, .int .i64 h.mac] 71)) := (Ext.refl _).alloc _; have ho1 := OwnF.lit (f := intF) intFlen 0 3 (w.alloc (.cells #[.int .i64 h.asn, .int .i64 h.ing, .int .i64 h.eg, .int .i64 h.exp, .int .i64 h.mac] 71)) [ts, beta, h.asn, h.ing, h.eg, h.exp] (Nat.zero_le _) (by simp [maxLen]); have h2 := h1.alloc (.cells #[.int .i64 ts, .int .i64 beta, .int .i64 h.asn, .int .i64 h.ing, .int .i64 h.eg, .int .i64 h.exp] 3)
 have hr : RdS Rep.int ((w.alloc (.cells #[.int .i64 h.asn, .int .i64 h.ing, .int .i64 h.eg, .int .i64 h.exp, .int .i64 h.mac] 71)).alloc (.cells #[.int .i64 ts, .int .i64 beta, .int .i64 h.asn, .int .i64 h.ing, .int .i64 h.eg, .int .i64 h.exp] 3)) (.slice (some ⟨w.heap.size + 1, 0, none⟩) 6 6) [ts, beta, h.asn, h.ing, h.eg, h.exp] := by
  have h := ints_rep ho1; rw [nblk_alloc] at h; exact h
 clear ho1
 go_enter Tryz.func196, Tryz.ntmps196

 go_wp2_with fail
 refine (i_ComputeMAC key [ts, beta, h.asn, h.ing, h.eg, h.exp] _ _ hr (by simp)).mono ?_; rintro e w3 ⟨rfl, h3⟩
 go_wp2_with fail
 go_ret
 exact ⟨rfl, h2.trans h3⟩
set_option maxHeartbeats 400000 in
theorem s_HopMAC (key ts beta : Int) (h : Hop) (w : World) :
  Calls Tryz.prog 253 #[.int .i64 key, .int .i64 ts, .int .i64 beta, .agg #[.int .i64 h.asn, .int .i64 h.ing, .int .i64 h.eg, .int .i64 h.exp, .int .i64 h.mac]] w fun e w' => e = .returned (.int .i64 (hopMac key ts beta h)) ∧ Ext w w' := by
 have h1 : Ext w (w.alloc (.cells #[.int .i64 h.asn, .int .i64 h.ing, .int .i64 h.eg, .int .i64 h.exp, .int .i64 h.mac] 71)) := (Ext.refl _).alloc _; have ho1 := OwnF.lit (f := intF) intFlen 0 3 (w.alloc (.cells #[.int .i64 h.asn, .int .i64 h.ing, .int .i64 h.eg, .int .i64 h.exp, .int .i64 h.mac] 71)) [ts, beta, h.asn, h.ing, h.eg, h.exp] (Nat.zero_le _) (by simp [maxLen]); have h2 := h1.alloc (.cells #[.int .i64 ts, .int .i64 beta, .int .i64 h.asn, .int .i64 h.ing, .int .i64 h.eg, .int .i64 h.exp] 3)
 have hr : RdS Rep.int ((w.alloc (.cells #[.int .i64 h.asn, .int .i64 h.ing, .int .i64 h.eg, .int .i64 h.exp, .int .i64 h.mac] 71)).alloc (.cells #[.int .i64 ts, .int .i64 beta, .int .i64 h.asn, .int .i64 h.ing, .int .i64 h.eg, .int .i64 h.exp] 3)) (.slice (some ⟨w.heap.size + 1, 0, none⟩) 6 6) [ts, beta, h.asn, h.ing, h.eg, h.exp] := by
  have h := ints_rep ho1; rw [nblk_alloc] at h; exact h
 clear ho1
 go_enter Tryz.func253, Tryz.ntmps253

 go_wp2_with fail
 refine (s_ComputeMAC key [ts, beta, h.asn, h.ing, h.eg, h.exp] _ _ hr (by simp)).mono ?_; rintro e w3 ⟨rfl, h3⟩
 go_wp2_with fail
 go_ret
 exact ⟨rfl, h2.trans h3⟩
set_option maxHeartbeats 1000000 in
theorem i_ValidHop (h : Hop) (w : World) :
  Calls Tryz.prog 194 #[.agg #[.int .i64 h.asn, .int .i64 h.ing, .int .i64 h.eg, .int .i64 h.exp, .int .i64 h.mac]] w fun e w' => e = .returned (.bool (validHop h)) ∧ Ext w w' := by
 go_enter Tryz.func194, Tryz.ntmps194

 go_wp2_with (first | (go_at_call 102; refine (i_InRange _ _ _ _).mono ?_; rintro e w' ⟨rfl, rfl⟩) | (go_at_call 193; refine (i_isResidue _ _).mono ?_; rintro e w' ⟨rfl, rfl⟩))
 all_goals
  go_ret
  refine ⟨ret_bool ?_, (Ext.refl _).alloc _⟩
  simp [validHop, *]
set_option maxHeartbeats 1000000 in
theorem s_ValidHop (h : Hop) (w : World) :
  Calls Tryz.prog 251 #[.agg #[.int .i64 h.asn, .int .i64 h.ing, .int .i64 h.eg, .int .i64 h.exp, .int .i64 h.mac]] w fun e w' => e = .returned (.bool (validHop h)) ∧ Ext w w' := by
 go_enter Tryz.func251, Tryz.ntmps251

 go_wp2_with (first | (go_at_call 103; refine (s_l1In _ _ _ _).mono ?_; rintro e w' ⟨rfl, rfl⟩) | (go_at_call 182; refine (s_l3Ok _ _).mono ?_; rintro e w' ⟨rfl, rfl⟩))
 all_goals
  go_ret
  refine ⟨ret_bool ?_, (Ext.refl _).alloc _⟩
  simp [validHop, *]
set_option maxHeartbeats 400000 in
theorem i_isAS (t : Topo) (v1 v2 : Value) (r : Int) (w : World) (ha : RdS ASd.rep w v1 t.ases) :
  Calls Tryz.prog 195 #[.agg #[v1, v2], .int .i64 r] w fun e w' => e = .returned (.bool (isAs t r)) ∧ Ext w w' := by
 obtain ⟨o, cap, rfl, hsm⟩ := ha.shape
 go_enter Tryz.func195, Tryz.ntmps195

 go_wp2_with (go_at_call 102; refine (i_InRange _ _ _ _).mono ?_; rintro e w' ⟨rfl, rfl⟩)
 go_ret
 exact ⟨rfl, (Ext.refl _).alloc _⟩
set_option maxHeartbeats 400000 in
theorem s_l5Realm (t : Topo) (v1 v2 : Value) (r : Int) (w : World) (ha : RdS ASd.rep w v1 t.ases) :
  Calls Tryz.prog 212 #[.agg #[v1, v2], .int .i64 r] w fun e w' => e = .returned (.bool (isAs t r)) ∧ Ext w w' := by
 obtain ⟨o, cap, rfl, hsm⟩ := ha.shape
 go_enter Tryz.func212, Tryz.ntmps212

 go_wp2_with (go_at_call 103; refine (s_l1In _ _ _ _).mono ?_; rintro e w' ⟨rfl, rfl⟩)
 go_ret
 exact ⟨rfl, (Ext.refl _).alloc _⟩
set_option maxRecDepth 100000 in
set_option maxHeartbeats 2000000 in
theorem i_VerifyHop (t : Topo) (v1 v2 : Value) (ts beta : Int) (h : Hop) (w : World) (ha : RdS ASd.rep w v1 t.ases) :
  Calls Tryz.prog 125 #[.agg #[v1, v2], .int .i64 ts, .int .i64 beta, .agg #[.int .i64 h.asn, .int .i64 h.ing, .int .i64 h.eg, .int .i64 h.exp, .int .i64 h.mac]] w fun e w' => e = .returned (.bool (verHop t ts beta h)) ∧ Ext w w' := by
 obtain ⟨o, cap, rfl, hsm⟩ := ha.shape; have hx0 := ext2 w (.cells #[.slice o t.ases.length cap, v2] 56) (.cells #[.int .i64 h.asn, .int .i64 h.ing, .int .i64 h.eg, .int .i64 h.exp, .int .i64 h.mac] 71); have HB := Lib.hid (al2 w (.cells #[.slice o t.ases.length cap, v2] 56) (.cells #[.int .i64 h.asn, .int .i64 h.ing, .int .i64 h.eg, .int .i64 h.exp, .int .i64 h.mac] 71))
 go_enter Tryz.func125, Tryz.ntmps125

 go_wp2
 have hc1 := blk2 HB.out.1; have hc2 := blk5 HB.out.2
 cases h1 : validHop h
 ·
  have HE := Lib.hid (show verHop t ts beta h = false by unfold verHop; rw [h1]; rfl); refine wp_region_ext (by kernel_rfl) (by kernel_rfl) ?_; have q0 := ExtW.cell (hc1.1); have q1 := ExtW.cell (hc1.2); have q2 := ExtW.cell (hc2.1); have q3 := ExtW.cell (hc2.2.1); have q4 := ExtW.cell (hc2.2.2.1); have q5 := ExtW.cell (hc2.2.2.2.1); have q6 := ExtW.cell (hc2.2.2.2.2)
  repeat (first | go_big_quiet_step (((first | (go_at_call 194; exact Calls.ext_of (i_ValidHop h _))))) | quiet_step (((first | (go_at_call 194; exact Calls.ext_of (i_ValidHop h _))))))
  refine wpQuiet_nil ?_; intro w9 hw9; have h9 := ExtW.out hw9; clear hw9 q0 q1 q2 q3 q4 q5 q6; clear hc1 hc2
  go_wp2_with fail
  go_ret
  exact ⟨ret_bool HE.out.symm, hx0.trans h9⟩
 ·
  cases h2 : isAs t h.asn
  ·
   have HE := Lib.hid (show verHop t ts beta h = false by unfold verHop; rw [h1, h2]; rfl); refine wp_region_ext (by kernel_rfl) (by kernel_rfl) ?_; have q0 := ExtW.cell (hc1.1); have q1 := ExtW.cell (hc1.2); have q2 := ExtW.cell (hc2.1); have q3 := ExtW.cell (hc2.2.1); have q4 := ExtW.cell (hc2.2.2.1); have q5 := ExtW.cell (hc2.2.2.2.1); have q6 := ExtW.cell (hc2.2.2.2.2)
   repeat (first | go_big_quiet_step (((first | (go_at_call 194; exact Calls.ext_of (i_ValidHop h _)) | (go_at_call 195; exact Calls.ext_of (i_isAS t _ _ h.asn _ ((ha.ext hx0).ext (ExtW.h _))))))) | quiet_step (((first | (go_at_call 194; exact Calls.ext_of (i_ValidHop h _)) | (go_at_call 195; exact Calls.ext_of (i_isAS t _ _ h.asn _ ((ha.ext hx0).ext (ExtW.h _))))))))
   refine wpQuiet_nil ?_; intro w9 hw9; have h9 := ExtW.out hw9; clear hw9 q0 q1 q2 q3 q4 q5 q6; clear hc1 hc2
   go_wp2_with fail
   go_ret
   exact ⟨ret_bool HE.out.symm, hx0.trans h9⟩
  ·
   obtain ⟨hp1, hp2⟩ := isAs_lt h2; have HE := Lib.hid (show verHop t ts beta h = (h.mac == hopMac t.ases[h.asn.toNat].key ts beta h) by unfold verHop; rw [h1, h2, asAt_at hp1 hp2]; rfl); obtain ⟨b, off, rfl, hc⟩ := ASd.at (ha.ext hx0) h.asn.toNat hp2; have hp3 : h.asn < t.ases.length := by omega
   refine wp_region_ext (by kernel_rfl) (by kernel_rfl) ?_; have q0 := ExtW.cell (hc1.1); have q1 := ExtW.cell (hc1.2); have q2 := ExtW.cell (hc2.1); have q3 := ExtW.cell (hc2.2.1); have q4 := ExtW.cell (hc2.2.2.1); have q5 := ExtW.cell (hc2.2.2.2.1); have q6 := ExtW.cell (hc2.2.2.2.2); have q7 := ExtW.cell (hc.1); have q8 := ExtW.cell (hc.2.1); have q9 := ExtW.cell (hc.2.2)
   repeat (first | go_big_quiet_step (((first | (go_at_call 194; exact Calls.ext_of (i_ValidHop h _)) | (go_at_call 195; exact Calls.ext_of (i_isAS t _ _ h.asn _ ((ha.ext hx0).ext (ExtW.h _)))) | (go_at_call 196; exact Calls.ext_of (i_HopMAC _ _ _ h _))))) | quiet_step (((first | (go_at_call 194; exact Calls.ext_of (i_ValidHop h _)) | (go_at_call 195; exact Calls.ext_of (i_isAS t _ _ h.asn _ ((ha.ext hx0).ext (ExtW.h _)))) | (go_at_call 196; exact Calls.ext_of (i_HopMAC _ _ _ h _))))))
   refine wpQuiet_nil ?_; intro w9 hw9; have h9 := ExtW.out hw9; clear hw9 q0 q1 q2 q3 q4 q5 q6 q7 q8 q9; clear hc1 hc2
   go_wp2_with fail
   go_ret
   exact ⟨ret_bool HE.out.symm, hx0.trans h9⟩
set_option maxRecDepth 100000 in
set_option maxHeartbeats 2000000 in
theorem s_VerifyHop (t : Topo) (v1 v2 : Value) (ts beta : Int) (h : Hop) (w : World) (ha : RdS ASd.rep w v1 t.ases) :
  Calls Tryz.prog 227 #[.agg #[v1, v2], .int .i64 ts, .int .i64 beta, .agg #[.int .i64 h.asn, .int .i64 h.ing, .int .i64 h.eg, .int .i64 h.exp, .int .i64 h.mac]] w fun e w' => e = .returned (.bool (verHop t ts beta h)) ∧ Ext w w' := by
 obtain ⟨o, cap, rfl, hsm⟩ := ha.shape; have hx0 := ext2 w (.cells #[.slice o t.ases.length cap, v2] 56) (.cells #[.int .i64 h.asn, .int .i64 h.ing, .int .i64 h.eg, .int .i64 h.exp, .int .i64 h.mac] 71); have HB := Lib.hid (al2 w (.cells #[.slice o t.ases.length cap, v2] 56) (.cells #[.int .i64 h.asn, .int .i64 h.ing, .int .i64 h.eg, .int .i64 h.exp, .int .i64 h.mac] 71))
 go_enter Tryz.func227, Tryz.ntmps227

 go_wp2
 have hc1 := blk2 HB.out.1; have hc2 := blk5 HB.out.2
 cases h1 : validHop h
 ·
  have HE := Lib.hid (show verHop t ts beta h = false by unfold verHop; rw [h1]; rfl); refine wp_region_ext (by kernel_rfl) (by kernel_rfl) ?_; have q0 := ExtW.cell (hc1.1); have q1 := ExtW.cell (hc1.2); have q2 := ExtW.cell (hc2.1); have q3 := ExtW.cell (hc2.2.1); have q4 := ExtW.cell (hc2.2.2.1); have q5 := ExtW.cell (hc2.2.2.2.1); have q6 := ExtW.cell (hc2.2.2.2.2)
  repeat (first | go_big_quiet_step (((first | (go_at_call 251; exact Calls.ext_of (s_ValidHop h _))))) | quiet_step (((first | (go_at_call 251; exact Calls.ext_of (s_ValidHop h _))))))
  refine wpQuiet_nil ?_; intro w9 hw9; have h9 := ExtW.out hw9; clear hw9 q0 q1 q2 q3 q4 q5 q6; clear hc1 hc2
  go_wp2_with fail
  go_ret
  exact ⟨ret_bool HE.out.symm, hx0.trans h9⟩
 ·
  cases h2 : isAs t h.asn
  ·
   have HE := Lib.hid (show verHop t ts beta h = false by unfold verHop; rw [h1, h2]; rfl); refine wp_region_ext (by kernel_rfl) (by kernel_rfl) ?_; have q0 := ExtW.cell (hc1.1); have q1 := ExtW.cell (hc1.2); have q2 := ExtW.cell (hc2.1); have q3 := ExtW.cell (hc2.2.1); have q4 := ExtW.cell (hc2.2.2.1); have q5 := ExtW.cell (hc2.2.2.2.1); have q6 := ExtW.cell (hc2.2.2.2.2)
   repeat (first | go_big_quiet_step (((first | (go_at_call 251; exact Calls.ext_of (s_ValidHop h _)) | (go_at_call 212; exact Calls.ext_of (s_l5Realm t _ _ h.asn _ ((ha.ext hx0).ext (ExtW.h _))))))) | quiet_step (((first | (go_at_call 251; exact Calls.ext_of (s_ValidHop h _)) | (go_at_call 212; exact Calls.ext_of (s_l5Realm t _ _ h.asn _ ((ha.ext hx0).ext (ExtW.h _))))))))
   refine wpQuiet_nil ?_; intro w9 hw9; have h9 := ExtW.out hw9; clear hw9 q0 q1 q2 q3 q4 q5 q6; clear hc1 hc2
   go_wp2_with fail
   go_ret
   exact ⟨ret_bool HE.out.symm, hx0.trans h9⟩
  ·
   obtain ⟨hp1, hp2⟩ := isAs_lt h2; have HE := Lib.hid (show verHop t ts beta h = (h.mac == hopMac t.ases[h.asn.toNat].key ts beta h) by unfold verHop; rw [h1, h2, asAt_at hp1 hp2]; rfl); obtain ⟨b, off, rfl, hc⟩ := ASd.at (ha.ext hx0) h.asn.toNat hp2; have hp3 : h.asn < t.ases.length := by omega
   refine wp_region_ext (by kernel_rfl) (by kernel_rfl) ?_; have q0 := ExtW.cell (hc1.1); have q1 := ExtW.cell (hc1.2); have q2 := ExtW.cell (hc2.1); have q3 := ExtW.cell (hc2.2.1); have q4 := ExtW.cell (hc2.2.2.1); have q5 := ExtW.cell (hc2.2.2.2.1); have q6 := ExtW.cell (hc2.2.2.2.2); have q7 := ExtW.cell (hc.1); have q8 := ExtW.cell (hc.2.1); have q9 := ExtW.cell (hc.2.2)
   repeat (first | go_big_quiet_step (((first | (go_at_call 251; exact Calls.ext_of (s_ValidHop h _)) | (go_at_call 212; exact Calls.ext_of (s_l5Realm t _ _ h.asn _ ((ha.ext hx0).ext (ExtW.h _)))) | (go_at_call 253; exact Calls.ext_of (s_HopMAC _ _ _ h _))))) | quiet_step (((first | (go_at_call 251; exact Calls.ext_of (s_ValidHop h _)) | (go_at_call 212; exact Calls.ext_of (s_l5Realm t _ _ h.asn _ ((ha.ext hx0).ext (ExtW.h _)))) | (go_at_call 253; exact Calls.ext_of (s_HopMAC _ _ _ h _))))))
   refine wpQuiet_nil ?_; intro w9 hw9; have h9 := ExtW.out hw9; clear hw9 q0 q1 q2 q3 q4 q5 q6 q7 q8 q9; clear hc1 hc2
   go_wp2_with fail
   go_ret
   exact ⟨ret_bool HE.out.symm, hx0.trans h9⟩
end
section
open Go.ChangeShapes Go.WideShapes Go.ChangeAt Go.RowKit Go.Deep
set_option maxRecDepth 100000 in
set_option maxHeartbeats 1000000 in
theorem s_ChainAdd (b : Int) (l : List Int) (v : Value) (w : World) (hv : RdS Rep.int w v l) :
  Calls Tryz.prog 256 #[.int .i64 b, v] w fun e w' => e = .returned (.int .i64 (chainAdd b l)) ∧ w = w' := by
 obtain ⟨o, cap, rfl, hsm⟩ := hv.shape
 go_enter Tryz.func256, Tryz.ntmps256
 go_wp2
 go_loopg [0, 5] l.length (fun gk bb i wr => ∃ (k : Nat), gk + k = l.length ∧ i = .int .i64 k ∧ bb = .int .i64 (chainAdd b (l.take k)) ∧ w = wr)
 case atStart => exact ⟨0, rfl, rfl, rfl, rfl⟩
 case round =>
  obtain ⟨k, hgk, rfl, rfl, rfl⟩ := hrel
  by_cases hlt : k < l.length
  ·
   obtain ⟨b1, off, rfl, hcell⟩ := ints_at hv k hlt; have hg0 : gk - 1 + (k + 1) = l.length ∧ gk - 1 < gk := by omega
   have HG := Lib.hid hg0; clear hg0 hgk; have HN := Lib.hid (chainAdd_snoc (b := b) hlt)
   go_wp2_with fail
   refine (s_AddMod _ _ _).mono ?_; rintro e w1 ⟨rfl, rfl⟩
   go_wp2_with fail
   go_roundg (gk - 1)
   case measure => exact HG.out.2
   case rel => exact ⟨k + 1, HG.out.1, by go_num, by rw [HN.out], rfl⟩
  ·
   have HE := Lib.hid (show chainAdd b (l.take k) = chainAdd b l by rw [List.take_of_length_le (by omega)])
   go_wp2_with fail
   go_ret
   exact ⟨ret_int HE.out, rfl⟩
end
section
open Go.ChangeShapes Go.WideShapes Go.ChangeAt Go.RowKit Go.Deep
theorem remEnd_no {t : Topo} {r d : Int} (h : linkIdx t.links r d < 0) : remEnd t r d = (-1, 0) := if_pos h
theorem remEnd_at {t : Topo} {r d : Int} (h : ¬ linkIdx t.links r d < 0) (hl : (linkIdx t.links r d).toNat < t.links.length) :
  remEnd t r d = if (t.links[(linkIdx t.links r d).toNat].a == r) && (t.links[(linkIdx t.links r d).toNat].ai == d) then (t.links[(linkIdx t.links r d).toNat].b, t.links[(linkIdx t.links r d).toNat].bi) else (t.links[(linkIdx t.links r d).toNat].a, t.links[(linkIdx t.links r d).toNat].ai) := by
 unfold remEnd; rw [if_neg h, List.getElem?_eq_getElem hl]
theorem ret_pair {a b : Int} {x : Int × Int} (h : x = (a, b)) : Ending.returned (.tuple #[.int .i64 a, .int .i64 b]) = .returned (.tuple #[.int .i64 x.1, .int .i64 x.2]) := by rw [h]
set_option maxHeartbeats 1000000 in
theorem i_RemoteEnd (t : Topo) (v1 v2 : Value) (r d : Int) (w : World) (hk : RdS Lnk.rep w v2 t.links) :
  Calls Tryz.prog 48 #[.agg #[v1, v2], .int .i64 r, .int .i64 d] w fun e w' => e = .returned (.tuple #[.int .i64 (remEnd t r d).1, .int .i64 (remEnd t r d).2]) ∧ Ext w w' := by
 obtain ⟨o, cap, rfl, hsm⟩ := hk.shape; have hx0 : Ext w (w.alloc (.cells #[v1, .slice o t.links.length cap] 56)) := (Ext.refl _).alloc _; have HB0 := Lib.hid (blk_new w (.cells #[v1, .slice o t.links.length cap] 56))
 go_enter Tryz.func48, Tryz.ntmps48
 have cf1 := blk2 HB0.out
 go_wp2_with fail
 refine (i_LinkIndex t _ _ r d _ (hk.ext hx0)).mono ?_; rintro e w1 ⟨rfl, hz1⟩; have hil := linkIdx_lt t.links r d
 by_cases hn : linkIdx t.links r d < 0
 ·
  have HE := Lib.hid (remEnd_no hn)
  try clear cf1
  have cf2 := blk2 (Ext.block hz1 HB0.out)
  go_wp2_with fail
  go_ret2
  exact ⟨ret_pair HE.out, (hx0.t hz1)⟩
 ·
  have hin : (linkIdx t.links r d).toNat < t.links.length := by omega
  have HE := Lib.hid (remEnd_at hn hin); have hn0 : 0 ≤ linkIdx t.links r d := by omega
  obtain ⟨b, off, rfl, hc⟩ := Lnk.at (hk.ext (hx0.t hz1)) _ hin; generalize linkIdx t.links r d = i at *; generalize t.links[i.toNat] = x at *
  try clear cf1
  have cf3 := blk2 (Ext.block hz1 HB0.out); have hx1 : Ext w1 (w1.alloc (.cells #[.int .i64 x.a, .int .i64 x.ai, .int .i64 x.b, .int .i64 x.bi, .int .i64 x.kind] 156)) := (Ext.refl _).alloc _; have HB1 := Lib.hid (blk_new w1 (.cells #[.int .i64 x.a, .int .i64 x.ai, .int .i64 x.b, .int .i64 x.bi, .int .i64 x.kind] 156))
  cases b1 : (x.a == r) <;> cases b2 : (x.ai == d)
  all_goals
   go_wp2_with fail
   have cl := blk5 HB1.out; refine wp_region_ext (by kernel_rfl) (by kernel_rfl) ?_; have q0 := ExtW.cell (cl.1); have q1 := ExtW.cell (cl.2.1); have q2 := ExtW.cell (cl.2.2.1); have q3 := ExtW.cell (cl.2.2.2.1); have q4 := ExtW.cell (cl.2.2.2.2)
   repeat (first | go_big_quiet_step (fail) | quiet_step (fail))
   refine wpQuiet_nil ?_; intro w9 hw9; have h9 := ExtW.out hw9; clear hw9 q0 q1 q2 q3 q4 cl
   go_wp2_with fail
   go_ret2
   exact ⟨ret_pair (by rw [HE.out, b1, b2]; rfl), ((hx0.t hz1).t hx1).trans h9⟩
set_option maxHeartbeats 1000000 in
theorem s_RemoteEnd (t : Topo) (v1 v2 : Value) (r d : Int) (w : World) (hk : RdS Lnk.rep w v2 t.links) :
  Calls Tryz.prog 140 #[.agg #[v1, v2], .int .i64 r, .int .i64 d] w fun e w' => e = .returned (.tuple #[.int .i64 (remEnd t r d).1, .int .i64 (remEnd t r d).2]) ∧ Ext w w' := by
 obtain ⟨o, cap, rfl, hsm⟩ := hk.shape; have hx0 : Ext w (w.alloc (.cells #[v1, .slice o t.links.length cap] 56)) := (Ext.refl _).alloc _; have HB0 := Lib.hid (blk_new w (.cells #[v1, .slice o t.links.length cap] 56))
 go_enter Tryz.func140, Tryz.ntmps140
 have cf1 := blk2 HB0.out
 go_wp2_with fail
 refine (s_LinkIndex t _ _ r d _ (hk.ext hx0)).mono ?_; rintro e w1 ⟨rfl, hz1⟩; have hil := linkIdx_lt t.links r d
 by_cases hn : linkIdx t.links r d < 0
 ·
  have HE := Lib.hid (remEnd_no hn)
  try clear cf1
  have cf2 := blk2 (Ext.block hz1 HB0.out)
  go_wp2_with fail
  go_ret2
  exact ⟨ret_pair HE.out, (hx0.t hz1)⟩
 ·
  have hin : (linkIdx t.links r d).toNat < t.links.length := by omega
  have HE := Lib.hid (remEnd_at hn hin); have hn0 : 0 ≤ linkIdx t.links r d := by omega
  obtain ⟨b, off, rfl, hc⟩ := Lnk.at (hk.ext (hx0.t hz1)) _ hin; generalize linkIdx t.links r d = i at *; generalize t.links[i.toNat] = x at *
  try clear cf1
  have cf3 := blk2 (Ext.block hz1 HB0.out); have hx1 : Ext w1 (w1.alloc (.cells #[.int .i64 x.a, .int .i64 x.ai, .int .i64 x.b, .int .i64 x.bi, .int .i64 x.kind] 156)) := (Ext.refl _).alloc _; have HB1 := Lib.hid (blk_new w1 (.cells #[.int .i64 x.a, .int .i64 x.ai, .int .i64 x.b, .int .i64 x.bi, .int .i64 x.kind] 156))
  cases b1 : (x.a == r) <;> cases b2 : (x.ai == d)
  all_goals
   go_wp2_with fail
   have cl := blk5 HB1.out; refine wp_region_ext (by kernel_rfl) (by kernel_rfl) ?_; have q0 := ExtW.cell (cl.1); have q1 := ExtW.cell (cl.2.1); have q2 := ExtW.cell (cl.2.2.1); have q3 := ExtW.cell (cl.2.2.2.1); have q4 := ExtW.cell (cl.2.2.2.2)
   repeat (first | go_big_quiet_step (fail) | quiet_step (fail))
   refine wpQuiet_nil ?_; intro w9 hw9; have h9 := ExtW.out hw9; clear hw9 q0 q1 q2 q3 q4 cl
   go_wp2_with fail
   go_ret2
   exact ⟨ret_pair (by rw [HE.out, b1, b2]; rfl), ((hx0.t hz1).t hx1).trans h9⟩
set_option maxRecDepth 100000 in
set_option maxHeartbeats 4000000 in
theorem i_hopsOk (t : Topo) (v1 v2 : Value) (l : List Hop) (v : Value) (w : World) (ha : RdS ASd.rep w v1 t.ases) (hv : RdS Hop.rep w v l) :
  Calls Tryz.prog 232 #[.agg #[v1, v2], v] w fun e w' => e = .returned (.bool (hopsOk t l)) ∧ Ext w w' := by
 obtain ⟨o, cap, rfl, hsm⟩ := hv.shape; have hcap := hv.capLe; have hx0 : Ext w (w.alloc (.cells #[v1, v2] 56)) := (Ext.refl _).alloc _; have HB0 := Lib.hid (blk_new w (.cells #[v1, v2] 56))
 go_enter Tryz.func232, Tryz.ntmps232
 have cf1 := blk2 HB0.out
 go_wp2_with fail
 refine (i_InRange _ _ _ _).mono ?_; rintro e _ ⟨rfl, rfl⟩
 cases hr : inR (l.length : Int) 1 8
 ·
  have HE := Lib.hid (show hopsOk t l = false by unfold hopsOk; rw [hr]; rfl)
  go_wp2_with fail
  go_ret
  exact ⟨ret_bool HE.out.symm, hx0⟩
 ·
  have HL := Lib.hid (show hopsOk t l = allTo (hopFresh t l) l.length by unfold hopsOk; rw [hr]; rfl); clear hr
  go_wp2_with fail
  go_loopg [15] l.length (fun gk i wr => ∃ k : Nat, gk + k = l.length ∧ i = .int .i64 k ∧ Hid (allTo (hopFresh t l) k = true) ∧ Ext (w.alloc (.cells #[v1, v2] 56)) wr)
  case atStart => exact ⟨0, rfl, rfl, Lib.hid rfl, Ext.refl _⟩
  case round =>
   obtain ⟨k, hgk, rfl, HK, hx⟩ := hrel
   by_cases hlt : k < l.length
   ·
    have HG := Lib.hid (show gk - 1 + (k + 1) = l.length ∧ gk - 1 < gk by omega); clear hgk; have HAT := Lib.hid (hopAt_at hlt); obtain ⟨b, off, rfl, hc⟩ := Hop.at (hv.ext (hx0.t hx)) k hlt
    try clear cf1
    have cf2 := blk2 (Ext.block hx HB0.out); generalize hlk : l[k] = h at *; have HLK := Lib.hid hlk; clear hlk; have hx1 : Ext wr (wr.alloc (.cells #[.int .i64 h.asn, .int .i64 h.ing, .int .i64 h.eg, .int .i64 h.exp, .int .i64 h.mac] 71)) := (Ext.refl _).alloc _; have HB1 := Lib.hid (blk_new wr (.cells #[.int .i64 h.asn, .int .i64 h.ing, .int .i64 h.eg, .int .i64 h.exp, .int .i64 h.mac] 71))
    go_wp2_with fail
    refine (i_ValidHop h _).mono ?_; rintro e w2 ⟨rfl, hz2⟩
    cases b1 : validHop h
    ·
     have HE := Lib.hid (HL.out.trans (allTo_no hlt (show hopFresh t l k = false by unfold hopFresh; rw [HAT.out]; rw [b1]; rfl))); have cf3 := blk2 (Ext.block ((hx.t hx1).t hz2) HB0.out); have cf4 := blk5 (Ext.block hz2 HB1.out)
     go_wp2_with fail
     go_ret
     exact ⟨ret_bool HE.out.symm, (((hx0.t hx).t hx1).t hz2)⟩
    ·
     have cf5 := blk2 (Ext.block ((hx.t hx1).t hz2) HB0.out); have cf6 := blk5 (Ext.block hz2 HB1.out)
     go_wp2_with fail
     refine (i_isAS t _ _ h.asn _ (ha.ext (((hx0.t hx).t hx1).t hz2))).mono ?_; rintro e w3 ⟨rfl, hz3⟩
     cases b2 : isAs t h.asn
     ·
      have HE := Lib.hid (HL.out.trans (allTo_no hlt (show hopFresh t l k = false by unfold hopFresh; rw [HAT.out]; rw [b1, b2]; rfl)))
      try clear cf5
      try clear cf6
      have cf7 := blk2 (Ext.block (((hx.t hx1).t hz2).t hz3) HB0.out); have cf8 := blk5 (Ext.block (hz2.t hz3) HB1.out)
      go_wp2_with fail
      go_ret
      exact ⟨ret_bool HE.out.symm, ((((hx0.t hx).t hx1).t hz2).t hz3)⟩
     ·
      try clear cf5
      try clear cf6
      have cf9 := blk2 (Ext.block (((hx.t hx1).t hz2).t hz3) HB0.out); have cf10 := blk5 (Ext.block (hz2.t hz3) HB1.out)
      go_wp2_with fail
      obtain ⟨go, hgo⟩ : ∃ go : Nat, go = gk := ⟨_, rfl⟩
      subst hgo
      obtain ⟨wo, hwo⟩ : ∃ wo : World, wo = wr := ⟨_, rfl⟩
      subst hwo; have hkc : k ≤ cap := by omega
      go_loopg [34] k (fun gk j ws => ∃ m : Nat, gk + m = k ∧ j = .int .i64 m ∧ Hid (hasI ((l.map (·.asn)).take m) h.asn = false) ∧ Ext w3 ws)
      case atStart => exact ⟨0, rfl, rfl, Lib.hid rfl, Ext.refl _⟩
      case round =>
       obtain ⟨m, hgm, rfl, HM, hy⟩ := hrel
       by_cases hmk : m < k
       ·
        have hml : m < l.length := by omega
        have HG2 := Lib.hid (show gk - 1 + (m + 1) = k ∧ gk - 1 < gk by omega); clear hgm; obtain ⟨b2, off2, he2, hd⟩ := Hop.at (hv.ext (((((hx0.t hx).t hx1).t hz2).t hz3).trans hy)) m hml
        cases he2
        have HS := Lib.hid (any_snoc (fun x => x == h.asn) (l := l.map (·.asn)) (k := m) (by simpa using hml))
        try clear cf9
        try clear cf10
        have cf11 := blk2 (Ext.block ((((hx.t hx1).t hz2).t hz3).trans hy) HB0.out); have cf12 := blk5 (Ext.block ((hz2.t hz3).trans hy) HB1.out); have cy := blk5 (Ext.block (((hz2.t hz3).trans hy).trans ((Ext.refl wr).alloc (.cells #[.int .i64 l[m].asn, .int .i64 l[m].ing, .int .i64 l[m].eg, .int .i64 l[m].exp, .int .i64 l[m].mac] 71))) HB1.out)
        cases b3 : (l[m].asn == h.asn)
        ·
         have HM2 := Lib.hid (show hasI ((l.map (·.asn)).take (m + 1)) h.asn = false by unfold hasI at HM ⊢; rw [HS.out, HM.out]; simpa using b3)
         go_wp2_with fail
         go_roundg (gk - 1)
         case measure => exact HG2.out.2
         case rel => exact ⟨m + 1, HG2.out.1, by go_num, HM2, hy.alloc _⟩
        ·
         have HE := Lib.hid (HL.out.trans (allTo_no hlt (show hopFresh t l k = false by unfold hopFresh; rw [HAT.out, b1, b2]; simp only [Bool.true_and, Bool.not_eq_false']; exact List.any_eq_true.2 ⟨l[m].asn, List.mem_take_iff_getElem.2 ⟨m, by simp; omega, by simp⟩, b3⟩)))
         go_wp2_with fail
         go_ret
         exact ⟨ret_bool HE.out.symm, (((((hx0.t hx).t hx1).t hz2).t hz3).trans hy).alloc _⟩
       ·
        obtain rfl : m = k := by omega
        have HK2 := Lib.hid (allTo_snoc HK.out (show hopFresh t l m = true by unfold hopFresh; rw [HAT.out, b1, b2, HM.out]; rfl))
        go_wp2
        go_roundg (go - 1)
        case measure => exact HG.out.2
        case rel => exact ⟨m + 1, HG.out.1, by go_num, HK2, ((((hx.t hx1).t hz2).t hz3).trans hy)⟩
   ·
    obtain rfl : k = l.length := by omega
    have HE := Lib.hid (HL.out.trans HK.out)
    try clear cf1
    have cf13 := blk2 (Ext.block hx HB0.out)
    go_wp2_with fail
    go_ret
    exact ⟨ret_bool HE.out.symm, (hx0.t hx)⟩
end
section
open Go.ChangeShapes Go.WideShapes Go.ChangeAt Go.RowKit Go.Deep
theorem ifKind_at {t : Topo} {r d : Int} (hd : (d == 0) = false) (h : ¬ linkIdx t.links r d < 0) (hl : (linkIdx t.links r d).toNat < t.links.length) :
  ifKind t r d = (if t.links[(linkIdx t.links r d).toNat].kind == 1 then 1 else if t.links[(linkIdx t.links r d).toNat].kind == 3 then 4 else if t.links[(linkIdx t.links r d).toNat].kind == 2 then (if (t.links[(linkIdx t.links r d).toNat].a == r) && (t.links[(linkIdx t.links r d).toNat].ai == d) then 2 else 3) else 0) := by
 unfold ifKind; rw [hd, if_neg (by decide), if_neg h, List.getElem?_eq_getElem hl]
theorem and1 (m : Int) (h0 : 0 ≤ m) (h1 : m < 9223372036854775808) : bits .and .i64 m 1 = m % 2 := by
 obtain ⟨k, rfl⟩ := Int.eq_ofNat_of_zero_le h0; have := and_nat k 1 (by omega) (by omega); have h2 : k &&& 1 = k % 2 := Nat.and_two_pow_sub_one_eq_mod k 1; rw [h2] at this; have e : ((1 : Nat) : Int) = 1 := rfl; rw [e] at this; rw [this]; omega
set_option maxHeartbeats 2000000 in
theorem i_InterfaceKind (t : Topo) (v1 v2 : Value) (r d : Int) (w : World) (hk : RdS Lnk.rep w v2 t.links) :
  Calls Tryz.prog 132 #[.agg #[v1, v2], .int .i64 r, .int .i64 d] w fun e w' => e = .returned (.int .i64 (ifKind t r d)) ∧ Ext w w' := by
 obtain ⟨o, cap, rfl, hsm⟩ := hk.shape; have hx0 : Ext w (w.alloc (.cells #[v1, .slice o t.links.length cap] 56)) := (Ext.refl _).alloc _; have HB0 := Lib.hid (blk_new w (.cells #[v1, .slice o t.links.length cap] 56))
 go_enter Tryz.func132, Tryz.ntmps132
 cases b0 : (d == 0)
 ·
  have cf1 := blk2 HB0.out
  go_wp2_with fail
  refine (i_LinkIndex t _ _ r d _ (hk.ext hx0)).mono ?_; rintro e w1 ⟨rfl, hz1⟩; have hil := linkIdx_lt t.links r d
  by_cases hn : linkIdx t.links r d < 0
  ·
   have HE := Lib.hid (show ifKind t r d = 0 by unfold ifKind; rw [b0, if_neg (by decide), if_pos hn])
   try clear cf1
   have cf2 := blk2 (Ext.block hz1 HB0.out)
   go_wp2_with fail
   go_ret
   exact ⟨ret_int HE.out.symm, (hx0.t hz1)⟩
  ·
   have hin : (linkIdx t.links r d).toNat < t.links.length := by omega
   have HE := Lib.hid (ifKind_at b0 hn hin); have hn0 : 0 ≤ linkIdx t.links r d := by omega
   obtain ⟨b, off, rfl, hc⟩ := Lnk.at (hk.ext (hx0.t hz1)) _ hin; generalize linkIdx t.links r d = i at *; generalize t.links[i.toNat] = x at *
   try clear cf1
   have cf3 := blk2 (Ext.block hz1 HB0.out); have hxl := (hx0.t hz1).alloc (.cells #[.int .i64 x.a, .int .i64 x.ai, .int .i64 x.b, .int .i64 x.bi, .int .i64 x.kind] 156)
   cases b1 : (x.kind == 1) <;> cases b2 : (x.kind == 3) <;> cases b3 : (x.kind == 2) <;> cases b4 : (x.a == r) <;> cases b5 : (x.ai == d)
   all_goals
    have b3' : (x.kind != 2) = !(x.kind == 2) := rfl; rw [b3] at b3'
    first | replace b3' : (x.kind != 2) = true := b3' | replace b3' : (x.kind != 2) = false := b3'
    go_wp2_with fail
    go_ret
    exact ⟨ret_int (by rw [HE.out, b1, b2, b3, b4, b5]; rfl), hxl⟩
 ·
  have HE := Lib.hid (show ifKind t r d = 5 by unfold ifKind; rw [b0]; rfl); have cf4 := blk2 HB0.out
  go_wp2_with fail
  go_ret
  exact ⟨ret_int HE.out.symm, hx0⟩
set_option maxHeartbeats 2000000 in
theorem s_InterfaceKind (t : Topo) (v1 v2 : Value) (r d : Int) (w : World) (hk : RdS Lnk.rep w v2 t.links) :
  Calls Tryz.prog 188 #[.agg #[v1, v2], .int .i64 r, .int .i64 d] w fun e w' => e = .returned (.int .i64 (ifKind t r d)) ∧ Ext w w' := by
 obtain ⟨o, cap, rfl, hsm⟩ := hk.shape; have hx0 : Ext w (w.alloc (.cells #[v1, .slice o t.links.length cap] 56)) := (Ext.refl _).alloc _; have HB0 := Lib.hid (blk_new w (.cells #[v1, .slice o t.links.length cap] 56))
 go_enter Tryz.func188, Tryz.ntmps188
 cases b0 : (d == 0)
 ·
  have cf1 := blk2 HB0.out
  go_wp2_with fail
  refine (s_LinkIndex t _ _ r d _ (hk.ext hx0)).mono ?_; rintro e w1 ⟨rfl, hz1⟩; have hil := linkIdx_lt t.links r d
  by_cases hn : linkIdx t.links r d < 0
  ·
   have HE := Lib.hid (show ifKind t r d = 0 by unfold ifKind; rw [b0, if_neg (by decide), if_pos hn])
   try clear cf1
   have cf2 := blk2 (Ext.block hz1 HB0.out)
   go_wp2_with fail
   go_ret
   exact ⟨ret_int HE.out.symm, (hx0.t hz1)⟩
  ·
   have hin : (linkIdx t.links r d).toNat < t.links.length := by omega
   have HE := Lib.hid (ifKind_at b0 hn hin); have hn0 : 0 ≤ linkIdx t.links r d := by omega
   obtain ⟨b, off, rfl, hc⟩ := Lnk.at (hk.ext (hx0.t hz1)) _ hin; generalize linkIdx t.links r d = i at *; generalize t.links[i.toNat] = x at *
   try clear cf1
   have cf3 := blk2 (Ext.block hz1 HB0.out); have hxl := (hx0.t hz1).alloc (.cells #[.int .i64 x.a, .int .i64 x.ai, .int .i64 x.b, .int .i64 x.bi, .int .i64 x.kind] 156)
   cases b1 : (x.kind == 1) <;> cases b2 : (x.kind == 3) <;> cases b3 : (x.kind == 2) <;> cases b4 : (x.a == r) <;> cases b5 : (x.ai == d)
   all_goals
    have b3' : (x.kind != 2) = !(x.kind == 2) := rfl; rw [b3] at b3'
    first | replace b3' : (x.kind != 2) = true := b3' | replace b3' : (x.kind != 2) = false := b3'
    go_wp2_with fail
    go_ret
    exact ⟨ret_int (by rw [HE.out, b1, b2, b3, b4, b5]; rfl), hxl⟩
 ·
  have HE := Lib.hid (show ifKind t r d = 5 by unfold ifKind; rw [b0]; rfl); have cf4 := blk2 HB0.out
  go_wp2_with fail
  go_ret
  exact ⟨ret_int HE.out.symm, hx0⟩
set_option maxHeartbeats 8000000 in
theorem i_TransitAllowed (a b : Int) (w : World) :
  Calls Tryz.prog 131 #[.int .i64 a, .int .i64 b] w fun e w' => e = .returned (.bool (transitOk a b)) ∧ w = w' := by
 cases b2 : (b == 2) <;> cases b4 : (b == 5)
 all_goals
  have hb := Lib.hid b2; have hb4 := Lib.hid b4
  cases a1 : (a == 5) <;> cases a2 : (a == 2)
  ·
   cases a3 : (a == 3)
   ·
    cases a4 : (a == 1)
    ·
     go_enter Tryz.func131, Tryz.ntmps131
     go_wp2
     go_ret
     exact ⟨ret_bool (by unfold transitOk; rw [a1, a2, a3, a4]; rfl), rfl⟩
    ·
     cases b1 : (b == 1)
     all_goals
      go_enter Tryz.func131, Tryz.ntmps131
      go_wp2
      go_ret
      exact ⟨ret_bool (by unfold transitOk; rw [a1, a2, a3, a4, b1, hb.out, hb4.out]; rfl), rfl⟩
   ·
    go_enter Tryz.func131, Tryz.ntmps131
    go_wp2
    go_ret
    exact ⟨ret_bool (by unfold transitOk; rw [a1, a2, a3, hb.out, hb4.out]; rfl), rfl⟩
  all_goals
   cases b1 : (b == 1) <;> cases b3 : (b == 3)
   all_goals
    go_enter Tryz.func131, Tryz.ntmps131
    go_wp2
    go_ret
    exact ⟨ret_bool (by unfold transitOk; rw [a1, a2, b1, hb.out, b3, hb4.out]; rfl), rfl⟩
set_option maxHeartbeats 8000000 in
theorem s_TransitAllowed (a b : Int) (w : World) :
  Calls Tryz.prog 187 #[.int .i64 a, .int .i64 b] w fun e w' => e = .returned (.bool (transitOk a b)) ∧ w = w' := by
 cases b2 : (b == 2) <;> cases b4 : (b == 5)
 all_goals
  have hb := Lib.hid b2; have hb4 := Lib.hid b4
  cases a1 : (a == 5) <;> cases a2 : (a == 2)
  ·
   cases a3 : (a == 3)
   ·
    cases a4 : (a == 1)
    ·
     go_enter Tryz.func187, Tryz.ntmps187
     go_wp2
     go_ret
     exact ⟨ret_bool (by unfold transitOk; rw [a1, a2, a3, a4]; rfl), rfl⟩
    ·
     cases b1 : (b == 1)
     all_goals
      go_enter Tryz.func187, Tryz.ntmps187
      go_wp2
      go_ret
      exact ⟨ret_bool (by unfold transitOk; rw [a1, a2, a3, a4, b1, hb.out, hb4.out]; rfl), rfl⟩
   ·
    go_enter Tryz.func187, Tryz.ntmps187
    go_wp2
    go_ret
    exact ⟨ret_bool (by unfold transitOk; rw [a1, a2, a3, hb.out, hb4.out]; rfl), rfl⟩
  all_goals
   cases b1 : (b == 1) <;> cases b3 : (b == 3)
   all_goals
    go_enter Tryz.func187, Tryz.ntmps187
    go_wp2
    go_ret
    exact ⟨ret_bool (by unfold transitOk; rw [a1, a2, b1, hb.out, b3, hb4.out]; rfl), rfl⟩
set_option maxRecDepth 100000 in
set_option maxHeartbeats 4000000 in
theorem i_StepAllowed (t : Topo) (v1 v2 : Value) (s : Step) (w : World) (hk : RdS Lnk.rep w v2 t.links) :
  Calls Tryz.prog 50 #[.agg #[v1, v2], .agg #[.int .i64 s.asn, .int .i64 s.ing, .int .i64 s.eg]] w fun e w' => e = .returned (.bool (stepOk t s)) ∧ Ext w w' := by
 have hx0 := ext2 w (.cells #[v1, v2] 56) (.cells #[.int .i64 s.asn, .int .i64 s.ing, .int .i64 s.eg] 86); have HB0 := Lib.hid (al2 w (.cells #[v1, v2] 56) (.cells #[.int .i64 s.asn, .int .i64 s.ing, .int .i64 s.eg] 86))
 go_enter Tryz.func50, Tryz.ntmps50
 cases b1 : (s.ing == s.eg)
 ·
  have b1' : (s.ing != s.eg) = true := by simp only [bne, b1]; rfl
  have HE := Lib.hid (show stepOk t s = transitOk (ifKind t s.asn s.ing) (ifKind t s.asn s.eg) by unfold stepOk; rw [b1']; simp)
  cases b2 : transitOk (ifKind t s.asn s.ing) (ifKind t s.asn s.eg)
  ·
   rw [b2] at HE; have cf1 := blk2 HB0.out.1; have cf2 := blk3 HB0.out.2
   go_wp2_with fail
   refine wp_region_ext (by kernel_rfl) (by kernel_rfl) ?_; have q0 := ExtW.cell (cf1.1); have q1 := ExtW.cell (cf1.2); have q2 := ExtW.cell (cf2.1); have q3 := ExtW.cell (cf2.2.1); have q4 := ExtW.cell (cf2.2.2)
   repeat (first | go_big_quiet_step (((first | (go_at_call 132; exact Calls.ext_of (i_InterfaceKind t _ _ _ _ _ ((hk.ext hx0).ext (ExtW.h _)))) | (go_at_call 131; exact Calls.ext_same (i_TransitAllowed _ _ _))))) | quiet_step (((first | (go_at_call 132; exact Calls.ext_of (i_InterfaceKind t _ _ _ _ _ ((hk.ext hx0).ext (ExtW.h _)))) | (go_at_call 131; exact Calls.ext_same (i_TransitAllowed _ _ _))))))
   refine wpQuiet_nil ?_; intro w1 hw1; have hz1 := ExtW.out hw1; clear hw1 q0 q1 q2 q3 q4
   try clear cf1
   try clear cf2
   have cf3 := blk2 (Ext.block hz1 HB0.out.1); have cf4 := blk3 (Ext.block hz1 HB0.out.2)
   go_wp2_with fail
   go_ret
   exact ⟨ret_bool HE.out.symm, (hx0.t hz1)⟩
  ·
   rw [b2] at HE; have cf5 := blk2 HB0.out.1; have cf6 := blk3 HB0.out.2
   go_wp2_with fail
   refine wp_region_ext (by kernel_rfl) (by kernel_rfl) ?_; have q0 := ExtW.cell (cf5.1); have q1 := ExtW.cell (cf5.2); have q2 := ExtW.cell (cf6.1); have q3 := ExtW.cell (cf6.2.1); have q4 := ExtW.cell (cf6.2.2)
   repeat (first | go_big_quiet_step (((first | (go_at_call 132; exact Calls.ext_of (i_InterfaceKind t _ _ _ _ _ ((hk.ext hx0).ext (ExtW.h _)))) | (go_at_call 131; exact Calls.ext_same (i_TransitAllowed _ _ _))))) | quiet_step (((first | (go_at_call 132; exact Calls.ext_of (i_InterfaceKind t _ _ _ _ _ ((hk.ext hx0).ext (ExtW.h _)))) | (go_at_call 131; exact Calls.ext_same (i_TransitAllowed _ _ _))))))
   refine wpQuiet_nil ?_; intro w2 hw2; have hz2 := ExtW.out hw2; clear hw2 q0 q1 q2 q3 q4
   try clear cf5
   try clear cf6
   have cf7 := blk2 (Ext.block hz2 HB0.out.1); have cf8 := blk3 (Ext.block hz2 HB0.out.2)
   go_wp2_with fail
   go_ret
   exact ⟨ret_bool HE.out.symm, (hx0.t hz2)⟩
 ·
  have b1' : (s.ing != s.eg) = false := by simp only [bne, b1]; rfl
  cases b3 : (s.ing == 0)
  ·
   have b3' : (s.ing != 0) = true := by simp only [bne, b3]; rfl
   have HE := Lib.hid (show stepOk t s = false by unfold stepOk; rw [b1', b3]; simp)
   cases b2 : transitOk (ifKind t s.asn s.ing) (ifKind t s.asn s.eg)
   ·
    have cf9 := blk2 HB0.out.1; have cf10 := blk3 HB0.out.2
    go_wp2_with fail
    refine wp_region_ext (by kernel_rfl) (by kernel_rfl) ?_; have q0 := ExtW.cell (cf9.1); have q1 := ExtW.cell (cf9.2); have q2 := ExtW.cell (cf10.1); have q3 := ExtW.cell (cf10.2.1); have q4 := ExtW.cell (cf10.2.2)
    repeat (first | go_big_quiet_step (((first | (go_at_call 132; exact Calls.ext_of (i_InterfaceKind t _ _ _ _ _ ((hk.ext hx0).ext (ExtW.h _)))) | (go_at_call 131; exact Calls.ext_same (i_TransitAllowed _ _ _))))) | quiet_step (((first | (go_at_call 132; exact Calls.ext_of (i_InterfaceKind t _ _ _ _ _ ((hk.ext hx0).ext (ExtW.h _)))) | (go_at_call 131; exact Calls.ext_same (i_TransitAllowed _ _ _))))))
    refine wpQuiet_nil ?_; intro w3 hw3; have hz3 := ExtW.out hw3; clear hw3 q0 q1 q2 q3 q4
    try clear cf9
    try clear cf10
    have cf11 := blk2 (Ext.block hz3 HB0.out.1); have cf12 := blk3 (Ext.block hz3 HB0.out.2)
    go_wp2_with fail
    go_ret
    exact ⟨ret_bool HE.out.symm, (hx0.t hz3)⟩
   ·
    have cf13 := blk2 HB0.out.1; have cf14 := blk3 HB0.out.2
    go_wp2_with fail
    refine wp_region_ext (by kernel_rfl) (by kernel_rfl) ?_; have q0 := ExtW.cell (cf13.1); have q1 := ExtW.cell (cf13.2); have q2 := ExtW.cell (cf14.1); have q3 := ExtW.cell (cf14.2.1); have q4 := ExtW.cell (cf14.2.2)
    repeat (first | go_big_quiet_step (((first | (go_at_call 132; exact Calls.ext_of (i_InterfaceKind t _ _ _ _ _ ((hk.ext hx0).ext (ExtW.h _)))) | (go_at_call 131; exact Calls.ext_same (i_TransitAllowed _ _ _))))) | quiet_step (((first | (go_at_call 132; exact Calls.ext_of (i_InterfaceKind t _ _ _ _ _ ((hk.ext hx0).ext (ExtW.h _)))) | (go_at_call 131; exact Calls.ext_same (i_TransitAllowed _ _ _))))))
    refine wpQuiet_nil ?_; intro w4 hw4; have hz4 := ExtW.out hw4; clear hw4 q0 q1 q2 q3 q4
    try clear cf13
    try clear cf14
    have cf15 := blk2 (Ext.block hz4 HB0.out.1); have cf16 := blk3 (Ext.block hz4 HB0.out.2)
    go_wp2_with fail
    go_ret
    exact ⟨ret_bool HE.out.symm, (hx0.t hz4)⟩
  ·
   have b3' : (s.ing != 0) = false := by simp only [bne, b3]; rfl
   have HE := Lib.hid (show stepOk t s = transitOk (ifKind t s.asn s.ing) (ifKind t s.asn s.eg) by unfold stepOk; rw [b1', b3]; simp)
   cases b2 : transitOk (ifKind t s.asn s.ing) (ifKind t s.asn s.eg)
   ·
    rw [b2] at HE; have cf17 := blk2 HB0.out.1; have cf18 := blk3 HB0.out.2
    go_wp2_with fail
    refine wp_region_ext (by kernel_rfl) (by kernel_rfl) ?_; have q0 := ExtW.cell (cf17.1); have q1 := ExtW.cell (cf17.2); have q2 := ExtW.cell (cf18.1); have q3 := ExtW.cell (cf18.2.1); have q4 := ExtW.cell (cf18.2.2)
    repeat (first | go_big_quiet_step (((first | (go_at_call 132; exact Calls.ext_of (i_InterfaceKind t _ _ _ _ _ ((hk.ext hx0).ext (ExtW.h _)))) | (go_at_call 131; exact Calls.ext_same (i_TransitAllowed _ _ _))))) | quiet_step (((first | (go_at_call 132; exact Calls.ext_of (i_InterfaceKind t _ _ _ _ _ ((hk.ext hx0).ext (ExtW.h _)))) | (go_at_call 131; exact Calls.ext_same (i_TransitAllowed _ _ _))))))
    refine wpQuiet_nil ?_; intro w5 hw5; have hz5 := ExtW.out hw5; clear hw5 q0 q1 q2 q3 q4
    try clear cf17
    try clear cf18
    have cf19 := blk2 (Ext.block hz5 HB0.out.1); have cf20 := blk3 (Ext.block hz5 HB0.out.2)
    go_wp2_with fail
    go_ret
    exact ⟨ret_bool HE.out.symm, (hx0.t hz5)⟩
   ·
    rw [b2] at HE; have cf21 := blk2 HB0.out.1; have cf22 := blk3 HB0.out.2
    go_wp2_with fail
    refine wp_region_ext (by kernel_rfl) (by kernel_rfl) ?_; have q0 := ExtW.cell (cf21.1); have q1 := ExtW.cell (cf21.2); have q2 := ExtW.cell (cf22.1); have q3 := ExtW.cell (cf22.2.1); have q4 := ExtW.cell (cf22.2.2)
    repeat (first | go_big_quiet_step (((first | (go_at_call 132; exact Calls.ext_of (i_InterfaceKind t _ _ _ _ _ ((hk.ext hx0).ext (ExtW.h _)))) | (go_at_call 131; exact Calls.ext_same (i_TransitAllowed _ _ _))))) | quiet_step (((first | (go_at_call 132; exact Calls.ext_of (i_InterfaceKind t _ _ _ _ _ ((hk.ext hx0).ext (ExtW.h _)))) | (go_at_call 131; exact Calls.ext_same (i_TransitAllowed _ _ _))))))
    refine wpQuiet_nil ?_; intro w6 hw6; have hz6 := ExtW.out hw6; clear hw6 q0 q1 q2 q3 q4
    try clear cf21
    try clear cf22
    have cf23 := blk2 (Ext.block hz6 HB0.out.1); have cf24 := blk3 (Ext.block hz6 HB0.out.2)
    go_wp2_with fail
    go_ret
    exact ⟨ret_bool HE.out.symm, (hx0.t hz6)⟩
set_option maxRecDepth 100000 in
set_option maxHeartbeats 4000000 in
theorem s_StepAllowed (t : Topo) (v1 v2 : Value) (s : Step) (w : World) (hk : RdS Lnk.rep w v2 t.links) :
  Calls Tryz.prog 117 #[.agg #[v1, v2], .agg #[.int .i64 s.asn, .int .i64 s.ing, .int .i64 s.eg]] w fun e w' => e = .returned (.bool (stepOk t s)) ∧ Ext w w' := by
 have hx0 := ext2 w (.cells #[v1, v2] 56) (.cells #[.int .i64 s.asn, .int .i64 s.ing, .int .i64 s.eg] 86); have HB0 := Lib.hid (al2 w (.cells #[v1, v2] 56) (.cells #[.int .i64 s.asn, .int .i64 s.ing, .int .i64 s.eg] 86))
 go_enter Tryz.func117, Tryz.ntmps117
 cases b1 : (s.ing == s.eg)
 ·
  have b1' : (s.ing != s.eg) = true := by simp only [bne, b1]; rfl
  have HE := Lib.hid (show stepOk t s = transitOk (ifKind t s.asn s.ing) (ifKind t s.asn s.eg) by unfold stepOk; rw [b1']; simp); have cf1 := blk2 HB0.out.1; have cf2 := blk3 HB0.out.2
  go_wp2_with fail
  refine wp_region_ext (by kernel_rfl) (by kernel_rfl) ?_; have q0 := ExtW.cell (cf1.1); have q1 := ExtW.cell (cf1.2); have q2 := ExtW.cell (cf2.1); have q3 := ExtW.cell (cf2.2.1); have q4 := ExtW.cell (cf2.2.2)
  repeat (first | go_big_quiet_step (((first | (go_at_call 188; exact Calls.ext_of (s_InterfaceKind t _ _ _ _ _ ((hk.ext hx0).ext (ExtW.h _)))) | (go_at_call 187; exact Calls.ext_same (s_TransitAllowed _ _ _))))) | quiet_step (((first | (go_at_call 188; exact Calls.ext_of (s_InterfaceKind t _ _ _ _ _ ((hk.ext hx0).ext (ExtW.h _)))) | (go_at_call 187; exact Calls.ext_same (s_TransitAllowed _ _ _))))))
  refine wpQuiet_nil ?_; intro w1 hw1; have hz1 := ExtW.out hw1; clear hw1 q0 q1 q2 q3 q4
  try clear cf1
  try clear cf2
  have cf3 := blk2 (Ext.block hz1 HB0.out.1); have cf4 := blk3 (Ext.block hz1 HB0.out.2)
  go_wp2_with fail
  go_ret
  exact ⟨ret_bool HE.out.symm, (hx0.t hz1)⟩
 ·
  have b1' : (s.ing != s.eg) = false := by simp only [bne, b1]; rfl
  cases b3 : (s.ing == 0)
  ·
   have b3' : (s.ing != 0) = true := by simp only [bne, b3]; rfl
   have HE := Lib.hid (show stepOk t s = false by unfold stepOk; rw [b1', b3]; simp); have cf5 := blk2 HB0.out.1; have cf6 := blk3 HB0.out.2
   go_wp2_with fail
   go_ret
   exact ⟨ret_bool HE.out.symm, hx0⟩
  ·
   have b3' : (s.ing != 0) = false := by simp only [bne, b3]; rfl
   have HE := Lib.hid (show stepOk t s = transitOk (ifKind t s.asn s.ing) (ifKind t s.asn s.eg) by unfold stepOk; rw [b1', b3]; simp); have cf7 := blk2 HB0.out.1; have cf8 := blk3 HB0.out.2
   go_wp2_with fail
   refine wp_region_ext (by kernel_rfl) (by kernel_rfl) ?_; have q0 := ExtW.cell (cf7.1); have q1 := ExtW.cell (cf7.2); have q2 := ExtW.cell (cf8.1); have q3 := ExtW.cell (cf8.2.1); have q4 := ExtW.cell (cf8.2.2)
   repeat (first | go_big_quiet_step (((first | (go_at_call 188; exact Calls.ext_of (s_InterfaceKind t _ _ _ _ _ ((hk.ext hx0).ext (ExtW.h _)))) | (go_at_call 187; exact Calls.ext_same (s_TransitAllowed _ _ _))))) | quiet_step (((first | (go_at_call 188; exact Calls.ext_of (s_InterfaceKind t _ _ _ _ _ ((hk.ext hx0).ext (ExtW.h _)))) | (go_at_call 187; exact Calls.ext_same (s_TransitAllowed _ _ _))))))
   refine wpQuiet_nil ?_; intro w2 hw2; have hz2 := ExtW.out hw2; clear hw2 q0 q1 q2 q3 q4
   try clear cf7
   try clear cf8
   have cf9 := blk2 (Ext.block hz2 HB0.out.1); have cf10 := blk3 (Ext.block hz2 HB0.out.2)
   go_wp2_with fail
   go_ret
   exact ⟨ret_bool HE.out.symm, (hx0.t hz2)⟩
set_option maxHeartbeats 4000000 in
theorem i_Contains (s i : Int) (w : World) :
  Calls Tryz.prog 49 #[.int .i64 s, .int .i64 i] w fun e w' => e = .returned (.bool (inSet s i)) ∧ w = w' := by
 go_enter Tryz.func49, Tryz.ntmps49

 go_wp2_with fail
 refine (i_ValidSet _ _).mono ?_; rintro e w1 ⟨rfl, rfl⟩
 cases h1 : inR s 0 65535
 ·
  have HE := Lib.hid (show inSet s i = false by unfold inSet; rw [h1]; rfl)
  go_wp2_with fail
  go_ret
  exact ⟨ret_bool HE.out.symm, rfl⟩
 ·
  go_wp2_with fail
  refine (i_InRange _ _ _ _).mono ?_; rintro e w1 ⟨rfl, rfl⟩
  cases h2 : inR i 0 15
  ·
   have HE := Lib.hid (show inSet s i = false by unfold inSet; rw [h1, h2]; rfl)
   go_wp2_with fail
   go_ret
   exact ⟨ret_bool HE.out.symm, rfl⟩
  ·
   have HE := Lib.hid (show inSet s i = bitAt s i.toNat by unfold inSet; rw [h1, h2]; rfl); obtain ⟨a1, a2⟩ := inR_true.1 h1; obtain ⟨a3, a4⟩ := inR_true.1 h2; clear h1 h2; have hi : i = 0 ∨ i = 1 ∨ i = 2 ∨ i = 3 ∨ i = 4 ∨ i = 5 ∨ i = 6 ∨ i = 7 ∨ i = 8 ∨ i = 9 ∨ i = 10 ∨ i = 11 ∨ i = 12 ∨ i = 13 ∨ i = 14 ∨ i = 15 := by omega
   clear a3 a4
   rcases hi with rfl | rfl | rfl | rfl | rfl | rfl | rfl | rfl | rfl | rfl | rfl | rfl | rfl | rfl | rfl | rfl
   all_goals
    go_wp2_with fail
    go_ret
    exact ⟨ret_bool (by rw [HE.out]; unfold bitAt; rw [and1 _ (by omega) (by omega)]; first | rfl | simp), rfl⟩
set_option maxHeartbeats 4000000 in
theorem s_Contains (s i : Int) (w : World) :
  Calls Tryz.prog 118 #[.int .i64 s, .int .i64 i] w fun e w' => e = .returned (.bool (inSet s i)) ∧ w = w' := by
 go_enter Tryz.func118, Tryz.ntmps118

 go_wp2_with fail
 refine (s_ValidSet _ _).mono ?_; rintro e w1 ⟨rfl, rfl⟩
 cases h1 : inR s 0 65535
 ·
  have HE := Lib.hid (show inSet s i = false by unfold inSet; rw [h1]; rfl)
  go_wp2_with fail
  go_ret
  exact ⟨ret_bool HE.out.symm, rfl⟩
 ·
  go_wp2_with fail
  refine (s_l4One _ _).mono ?_; rintro e w1 ⟨rfl, rfl⟩
  cases h2 : inR i 0 15
  ·
   have HE := Lib.hid (show inSet s i = false by unfold inSet; rw [h1, h2]; rfl)
   go_wp2_with fail
   go_ret
   exact ⟨ret_bool HE.out.symm, rfl⟩
  ·
   have HE := Lib.hid (show inSet s i = bitAt s i.toNat by unfold inSet; rw [h1, h2]; rfl); obtain ⟨a1, a2⟩ := inR_true.1 h1; obtain ⟨a3, a4⟩ := inR_true.1 h2; clear h1 h2; have hi : i = 0 ∨ i = 1 ∨ i = 2 ∨ i = 3 ∨ i = 4 ∨ i = 5 ∨ i = 6 ∨ i = 7 ∨ i = 8 ∨ i = 9 ∨ i = 10 ∨ i = 11 ∨ i = 12 ∨ i = 13 ∨ i = 14 ∨ i = 15 := by omega
   clear a3 a4
   rcases hi with rfl | rfl | rfl | rfl | rfl | rfl | rfl | rfl | rfl | rfl | rfl | rfl | rfl | rfl | rfl | rfl
   all_goals
    go_wp2_with fail
    go_ret
    exact ⟨ret_bool (by rw [HE.out]; unfold bitAt; rw [and1 _ (by omega) (by omega)]; first | rfl | simp), rfl⟩
end
section
open Go.RowKit
def wHops (cont : Int → Int → Hop → List Step) (k : Int) : Int → List Hop → List Step
  | _, [] => []
  | inn, [h] => cont k inn h
  | inn, h :: h' :: hs => ⟨h.asn, inn, hopEg k h⟩ :: wHops cont k (hopIn k h') (h' :: hs)
def wParts (z : Int → Hop → Int) : List Part → Int → Int → Hop → List Step
  | [], k, inn, h => [⟨h.asn, inn, z k h⟩]
  | p :: ps, _, inn, _ => wHops (wParts z ps) p.kind inn p.hops
end
end Go.Proofs.YtcpfmhgfaliemaaGreat
