/- Contracts of digests, codes and hop fields, program and reference. No condition but the bounds that each theorem names. -/
import Derived.Test.YtkolfiedakojoaaPlain28
import Derived.Test.YtkolfiedakojoaaW21c
import Derived.Test.YtkolfiedakojoaaTyInt
import Derived.Deep.LoopGhost
namespace Go.Proofs.Ytkolfiedakojoaa
open Go.ChangeShapes Go.WideShapes Go.ChangeAt Go.RowKit Go.Deep

theorem ExtW.out {w w1 : World} (h : ∃ x : ExtW w, w1 = x.w') : Ext w w1 := by obtain ⟨y, rfl⟩ := h; exact y.h
theorem tmod_bd (n : Int) : -2147483647 < n.tmod 2147483647 ∧ n.tmod 2147483647 < 2147483647 := by
  rw [Int.tmod_eq_emod]; split <;> omega
theorem mod_pos (n : Int) : (n.tmod 2147483647 + 2147483647) % 2147483647 = n % 2147483647 := by
  rw [Int.add_emod_right, Int.tmod_eq_emod]
  split <;> omega
theorem mod_pos' (n : Int) : (n.tmod 2147483647 + 2147483647).tmod 2147483647 = n % 2147483647 := by
  have := tmod_bd n
  rw [Int.tmod_eq_emod_of_nonneg (by omega)]; exact mod_pos n
theorem digest_snoc {l : List Int} {k : Nat} (hk : k < l.length) : digest (l.take (k + 1)) = digStep (digest (l.take k)) l[k] := by
  unfold digest; rw [List.take_succ_eq_append_getElem hk, List.foldl_append]; rfl
theorem digest_res (l : List Int) : 0 ≤ digest l ∧ digest l ≤ 2147483646 := by
  rcases List.eq_nil_or_concat l with rfl | ⟨l', x, rfl⟩
  · exact ⟨by decide, by decide⟩
  · unfold digest; rw [List.concat_eq_append, List.foldl_append]; exact digStep_res _ x

set_option maxHeartbeats 400000 in
theorem i_Mod (n : Int) (w : World) :
    Calls Try.prog 213 #[.int .i64 n, .int .i64 2147483647] w fun e w' => e = .returned (.int .i64 (n % 2147483647)) ∧ w = w' := by
  go_enter Try.func213, Try.ntmps213

  have hb := tmod_bd n
  obtain ⟨hb1, hb2⟩ := hb
  have HM := Lib.hid (mod_pos n)
  have HM2 := Lib.hid (mod_pos' n)
  go_wp2_with (go_at_call 112; refine (i_InRange _ _ _ _).mono ?_; rintro e w' ⟨rfl, rfl⟩)
  all_goals
    first
    | (go_ret; first | exact ⟨ret_int HM.out, rfl⟩ | exact ⟨ret_int HM2.out, rfl⟩)
    | (exfalso; rename_i h; revert h; decide)

set_option maxHeartbeats 400000 in
theorem s_Mod (n : Int) (w : World) :
    Calls Try.prog 215 #[.int .i64 n, .int .i64 2147483647] w fun e w' => e = .returned (.int .i64 (n % 2147483647)) ∧ w = w' := by
  go_enter Try.func215, Try.ntmps215

  have hb := tmod_bd n
  obtain ⟨hb1, hb2⟩ := hb
  have HM := Lib.hid (mod_pos n)
  have HM2 := Lib.hid (mod_pos' n)
  go_wp2_with (go_at_call 114; refine (s_l1In _ _ _ _).mono ?_; rintro e w' ⟨rfl, rfl⟩)
  all_goals
    first
    | (go_ret; first | exact ⟨ret_int HM.out, rfl⟩ | exact ⟨ret_int HM2.out, rfl⟩)
    | (exfalso; rename_i h; revert h; decide)

set_option maxHeartbeats 1000000 in
theorem i_Digest (l : List Int) (v : Value) (w : World) (hv : RdS Rep.int w v l) :
    Calls Try.prog 202 #[v] w fun e w' => e = .returned (.int .i64 (digest l)) ∧ w = w' := by
  obtain ⟨o, cap, rfl, hsm⟩ := hv.shape
  go_enter Try.func202, Try.ntmps202

  go_wp2
  go_loop [3, 8] (fun d i => ∃ k : Nat, k ≤ l.length ∧ i = .int .i64 k ∧ d = .int .i64 (digest (l.take k))) (fun _ i => l.length - (intOf i).toNat)
  case atStart => exact ⟨0, Nat.zero_le _, rfl, rfl⟩
  case round =>
    obtain ⟨k, hk, rfl, rfl⟩ := hrel
    by_cases hlt : k < l.length
    · obtain ⟨b, off, rfl, hc⟩ := ints_at hv k hlt
      have HS := Lib.hid (digest_snoc hlt)
      obtain ⟨d1, d2⟩ := digest_res (l.take k)
      generalize digest (l.take k) = d at *
      go_wp2_with fail
      refine (i_Mod l[k] _).mono ?_
      rintro e w' ⟨rfl, rfl⟩
      have hm1 : 0 ≤ l[k] % 2147483647 := by omega
      have hm2 : l[k] % 2147483647 < 2147483647 := by omega
      go_wp2_with fail
      go_round
      case rel => exact ⟨k + 1, by omega, by go_num, by rw [HS.out]; rfl⟩
      case measure => simp [intOf]; omega
    · go_wp2
      go_ret
      exact ⟨ret_int (by rw [List.take_of_length_le (by omega)]), rfl⟩

set_option maxHeartbeats 1000000 in
theorem s_Digest (l : List Int) (v : Value) (w : World) (hv : RdS Rep.int w v l) :
    Calls Try.prog 214 #[v] w fun e w' => e = .returned (.int .i64 (digest l)) ∧ w = w' := by
  obtain ⟨o, cap, rfl, hsm⟩ := hv.shape
  go_enter Try.func214, Try.ntmps214

  go_wp2
  go_loop [3, 4] (fun d i => ∃ k : Nat, k ≤ l.length ∧ i = .int .i64 k ∧ d = .int .i64 (digest (l.take k))) (fun _ i => l.length - (intOf i).toNat)
  case atStart => exact ⟨0, Nat.zero_le _, rfl, rfl⟩
  case round =>
    obtain ⟨k, hk, rfl, rfl⟩ := hrel
    by_cases hlt : k < l.length
    · obtain ⟨b, off, rfl, hc⟩ := ints_at hv k hlt
      have HS := Lib.hid (digest_snoc hlt)
      obtain ⟨d1, d2⟩ := digest_res (l.take k)
      generalize digest (l.take k) = d at *
      go_wp2_with fail
      refine (s_Mod l[k] _).mono ?_
      rintro e w' ⟨rfl, rfl⟩
      have hm1 : 0 ≤ l[k] % 2147483647 := by omega
      have hm2 : l[k] % 2147483647 < 2147483647 := by omega
      go_wp2_with fail
      go_round
      case rel => exact ⟨k + 1, by omega, by go_num, by rw [HS.out]; rfl⟩
      case measure => simp [intOf]; omega
    · go_wp2
      go_ret
      exact ⟨ret_int (by rw [List.take_of_length_le (by omega)]), rfl⟩

set_option maxHeartbeats 1000000 in
theorem i_ComputeMAC (key : Int) (l : List Int) (v : Value) (w : World) (hv : RdS Rep.int w v l) (hl : l.length ≤ 1048576) :
    Calls Try.prog 180 #[.int .i64 key, v] w fun e w' => e = .returned (.int .i64 (macOf key l)) ∧ Ext w w' := by
  obtain ⟨E⟩ := elemInt
  obtain ⟨o, cap, rfl, hsm⟩ := hv.shape
  have h1 : Ext w (w.alloc (.cells #[.int .i64 key] 3)) := (Ext.refl _).alloc _
  have ho1 := OwnF.lit (f := intF) intFlen w.heap.size 3 w [key] (Nat.le_refl _) (by simp [maxLen])
  have hr1 := hv.ext h1
  go_enter Try.func180, Try.ntmps180

  go_wp2_with (at_builtin; refine appS E intFlen intOne rfl _ _ rfl l rfl ho1 rfl hr1 (by simp; omega) (by simp [maxLen]; omega) (by simp) ?_)
  intro v2 w2 ho2 hg2
  have h2 : Ext w w2 := h1.app hg2 ho1 (Nat.le_refl _)
  have h3 : Ext w2 (w2.alloc (.cells #[.int .i64 key] 3)) := (Ext.refl _).alloc _
  clear hg2 hr1
  go_wp2_with (at_builtin; refine app1 E intFlen intOne rfl _ _ rfl key rfl (ho2.ext h3) rfl (by exact blk_list (intF key) (blk_new w2 _)) (by simp; omega) (by simp [maxLen]; omega) (by exact (h2.trans h3).size) ?_)
  intro v4 w4 ho4 hg4
  have h4 : Ext w w4 := (h2.trans h3).app hg4 ho2 (Nat.le_refl _)
  clear hg4
  go_wp2_with fail
  refine (i_Digest _ _ _ (ints_rep ho4)).mono ?_
  rintro e w5 ⟨rfl, rfl⟩
  go_wp2_with fail
  go_ret
  exact ⟨rfl, h4⟩

set_option maxHeartbeats 1000000 in
theorem s_ComputeMAC (key : Int) (l : List Int) (v : Value) (w : World) (hv : RdS Rep.int w v l) (hl : l.length ≤ 1048576) :
    Calls Try.prog 203 #[.int .i64 key, v] w fun e w' => e = .returned (.int .i64 (macOf key l)) ∧ Ext w w' := by
  obtain ⟨E⟩ := elemInt
  obtain ⟨o, cap, rfl, hsm⟩ := hv.shape
  have h1 : Ext w (w.alloc (.cells #[.int .i64 key] 3)) := (Ext.refl _).alloc _
  have ho1 := OwnF.lit (f := intF) intFlen w.heap.size 3 w [key] (Nat.le_refl _) (by simp [maxLen])
  have hr1 := hv.ext h1
  go_enter Try.func203, Try.ntmps203

  go_wp2_with (at_builtin; refine appS E intFlen intOne rfl _ _ rfl l rfl ho1 rfl hr1 (by simp; omega) (by simp [maxLen]; omega) (by simp) ?_)
  intro v2 w2 ho2 hg2
  have h2 : Ext w w2 := h1.app hg2 ho1 (Nat.le_refl _)
  have h3 : Ext w2 (w2.alloc (.cells #[.int .i64 key] 3)) := (Ext.refl _).alloc _
  clear hg2 hr1
  go_wp2_with (at_builtin; refine app1 E intFlen intOne rfl _ _ rfl key rfl (ho2.ext h3) rfl (by exact blk_list (intF key) (blk_new w2 _)) (by simp; omega) (by simp [maxLen]; omega) (by exact (h2.trans h3).size) ?_)
  intro v4 w4 ho4 hg4
  have h4 : Ext w w4 := (h2.trans h3).app hg4 ho2 (Nat.le_refl _)
  clear hg4
  go_wp2_with fail
  refine (s_Digest _ _ _ (ints_rep ho4)).mono ?_
  rintro e w5 ⟨rfl, rfl⟩
  go_wp2_with fail
  go_ret
  exact ⟨rfl, h4⟩

set_option maxHeartbeats 400000 in
theorem i_HopMAC (key ts beta : Int) (h : Hop) (w : World) :
    Calls Try.prog 117 #[.int .i64 key, .int .i64 ts, .int .i64 beta, .agg #[.int .i64 h.asn, .int .i64 h.ing, .int .i64 h.eg, .int .i64 h.exp, .int .i64 h.mac]] w fun e w' => e = .returned (.int .i64 (hopMac key ts beta h)) ∧ Ext w w' := by
  have h1 : Ext w (w.alloc (.cells #[.int .i64 h.asn, .int .i64 h.ing, .int .i64 h.eg, .int .i64 h.exp, .int .i64 h.mac] 73)) := (Ext.refl _).alloc _
  have ho1 := OwnF.lit (f := intF) intFlen 0 3 (w.alloc (.cells #[.int .i64 h.asn, .int .i64 h.ing, .int .i64 h.eg, .int .i64 h.exp, .int .i64 h.mac] 73)) [ts, beta, h.asn, h.ing, h.eg, h.exp] (Nat.zero_le _) (by simp [maxLen])
  have h2 := h1.alloc (.cells #[.int .i64 ts, .int .i64 beta, .int .i64 h.asn, .int .i64 h.ing, .int .i64 h.eg, .int .i64 h.exp] 3)
  have hr : RdS Rep.int ((w.alloc (.cells #[.int .i64 h.asn, .int .i64 h.ing, .int .i64 h.eg, .int .i64 h.exp, .int .i64 h.mac] 73)).alloc (.cells #[.int .i64 ts, .int .i64 beta, .int .i64 h.asn, .int .i64 h.ing, .int .i64 h.eg, .int .i64 h.exp] 3)) (.slice (some ⟨w.heap.size + 1, 0, none⟩) 6 6) [ts, beta, h.asn, h.ing, h.eg, h.exp] := by
    have h := ints_rep ho1
    rw [nblk_alloc] at h
    exact h
  clear ho1
  go_enter Try.func117, Try.ntmps117

  go_wp2_with fail
  refine (i_ComputeMAC key [ts, beta, h.asn, h.ing, h.eg, h.exp] _ _ hr (by simp)).mono ?_
  rintro e w3 ⟨rfl, h3⟩
  go_wp2_with fail
  go_ret
  exact ⟨rfl, h2.trans h3⟩

set_option maxHeartbeats 400000 in
theorem s_HopMAC (key ts beta : Int) (h : Hop) (w : World) :
    Calls Try.prog 182 #[.int .i64 key, .int .i64 ts, .int .i64 beta, .agg #[.int .i64 h.asn, .int .i64 h.ing, .int .i64 h.eg, .int .i64 h.exp, .int .i64 h.mac]] w fun e w' => e = .returned (.int .i64 (hopMac key ts beta h)) ∧ Ext w w' := by
  have h1 : Ext w (w.alloc (.cells #[.int .i64 h.asn, .int .i64 h.ing, .int .i64 h.eg, .int .i64 h.exp, .int .i64 h.mac] 73)) := (Ext.refl _).alloc _
  have ho1 := OwnF.lit (f := intF) intFlen 0 3 (w.alloc (.cells #[.int .i64 h.asn, .int .i64 h.ing, .int .i64 h.eg, .int .i64 h.exp, .int .i64 h.mac] 73)) [ts, beta, h.asn, h.ing, h.eg, h.exp] (Nat.zero_le _) (by simp [maxLen])
  have h2 := h1.alloc (.cells #[.int .i64 ts, .int .i64 beta, .int .i64 h.asn, .int .i64 h.ing, .int .i64 h.eg, .int .i64 h.exp] 3)
  have hr : RdS Rep.int ((w.alloc (.cells #[.int .i64 h.asn, .int .i64 h.ing, .int .i64 h.eg, .int .i64 h.exp, .int .i64 h.mac] 73)).alloc (.cells #[.int .i64 ts, .int .i64 beta, .int .i64 h.asn, .int .i64 h.ing, .int .i64 h.eg, .int .i64 h.exp] 3)) (.slice (some ⟨w.heap.size + 1, 0, none⟩) 6 6) [ts, beta, h.asn, h.ing, h.eg, h.exp] := by
    have h := ints_rep ho1
    rw [nblk_alloc] at h
    exact h
  clear ho1
  go_enter Try.func182, Try.ntmps182

  go_wp2_with fail
  refine (s_ComputeMAC key [ts, beta, h.asn, h.ing, h.eg, h.exp] _ _ hr (by simp)).mono ?_
  rintro e w3 ⟨rfl, h3⟩
  go_wp2_with fail
  go_ret
  exact ⟨rfl, h2.trans h3⟩

set_option maxHeartbeats 1000000 in
theorem i_ValidHop (h : Hop) (w : World) :
    Calls Try.prog 115 #[.agg #[.int .i64 h.asn, .int .i64 h.ing, .int .i64 h.eg, .int .i64 h.exp, .int .i64 h.mac]] w fun e w' => e = .returned (.bool (validHop h)) ∧ Ext w w' := by
  go_enter Try.func115, Try.ntmps115

  go_wp2_with (first | (go_at_call 112; refine (i_InRange _ _ _ _).mono ?_; rintro e w' ⟨rfl, rfl⟩) | (go_at_call 130; refine (i_isResidue _ _).mono ?_; rintro e w' ⟨rfl, rfl⟩))
  all_goals
    go_ret
    refine ⟨ret_bool ?_, (Ext.refl _).alloc _⟩
    simp [validHop, *]

set_option maxHeartbeats 1000000 in
theorem s_ValidHop (h : Hop) (w : World) :
    Calls Try.prog 157 #[.agg #[.int .i64 h.asn, .int .i64 h.ing, .int .i64 h.eg, .int .i64 h.exp, .int .i64 h.mac]] w fun e w' => e = .returned (.bool (validHop h)) ∧ Ext w w' := by
  go_enter Try.func157, Try.ntmps157

  go_wp2_with (first | (go_at_call 114; refine (s_l1In _ _ _ _).mono ?_; rintro e w' ⟨rfl, rfl⟩) | (go_at_call 131; refine (s_l3Ok _ _).mono ?_; rintro e w' ⟨rfl, rfl⟩))
  all_goals
    go_ret
    refine ⟨ret_bool ?_, (Ext.refl _).alloc _⟩
    simp [validHop, *]

set_option maxHeartbeats 400000 in
theorem i_isAS (t : Topo) (v1 v2 : Value) (r : Int) (w : World) (ha : RdS ASd.rep w v1 t.ases) :
    Calls Try.prog 116 #[.agg #[v1, v2], .int .i64 r] w fun e w' => e = .returned (.bool (isAs t r)) ∧ Ext w w' := by
  obtain ⟨o, cap, rfl, hsm⟩ := ha.shape
  go_enter Try.func116, Try.ntmps116

  go_wp2_with (go_at_call 112; refine (i_InRange _ _ _ _).mono ?_; rintro e w' ⟨rfl, rfl⟩)
  go_ret
  exact ⟨rfl, (Ext.refl _).alloc _⟩

set_option maxHeartbeats 400000 in
theorem s_l5Realm (t : Topo) (v1 v2 : Value) (r : Int) (w : World) (ha : RdS ASd.rep w v1 t.ases) :
    Calls Try.prog 158 #[.agg #[v1, v2], .int .i64 r] w fun e w' => e = .returned (.bool (isAs t r)) ∧ Ext w w' := by
  obtain ⟨o, cap, rfl, hsm⟩ := ha.shape
  go_enter Try.func158, Try.ntmps158

  go_wp2_with (go_at_call 114; refine (s_l1In _ _ _ _).mono ?_; rintro e w' ⟨rfl, rfl⟩)
  go_ret
  exact ⟨rfl, (Ext.refl _).alloc _⟩

set_option maxRecDepth 100000 in
set_option maxHeartbeats 2000000 in
theorem i_VerifyHop (t : Topo) (v1 v2 : Value) (ts beta : Int) (h : Hop) (w : World) (ha : RdS ASd.rep w v1 t.ases) :
    Calls Try.prog 41 #[.agg #[v1, v2], .int .i64 ts, .int .i64 beta, .agg #[.int .i64 h.asn, .int .i64 h.ing, .int .i64 h.eg, .int .i64 h.exp, .int .i64 h.mac]] w fun e w' => e = .returned (.bool (verHop t ts beta h)) ∧ Ext w w' := by
  obtain ⟨o, cap, rfl, hsm⟩ := ha.shape
  have hx0 := ext2 w (.cells #[.slice o t.ases.length cap, v2] 59) (.cells #[.int .i64 h.asn, .int .i64 h.ing, .int .i64 h.eg, .int .i64 h.exp, .int .i64 h.mac] 73)
  have HB := Lib.hid (al2 w (.cells #[.slice o t.ases.length cap, v2] 59) (.cells #[.int .i64 h.asn, .int .i64 h.ing, .int .i64 h.eg, .int .i64 h.exp, .int .i64 h.mac] 73))
  go_enter Try.func41, Try.ntmps41

  go_wp2
  have hc1 := blk2 HB.out.1
  have hc2 := blk5 HB.out.2
  cases h1 : validHop h
  · have HE := Lib.hid (show verHop t ts beta h = false by unfold verHop; rw [h1]; rfl)
    refine wp_region_ext (by kernel_rfl) (by kernel_rfl) ?_
    have q0 := ExtW.cell (hc1.1)
    have q1 := ExtW.cell (hc1.2)
    have q2 := ExtW.cell (hc2.1)
    have q3 := ExtW.cell (hc2.2.1)
    have q4 := ExtW.cell (hc2.2.2.1)
    have q5 := ExtW.cell (hc2.2.2.2.1)
    have q6 := ExtW.cell (hc2.2.2.2.2)
    repeat (first | go_big_quiet_step (((first | (go_at_call 115; exact Calls.ext_of (i_ValidHop h _))))) | quiet_step (((first | (go_at_call 115; exact Calls.ext_of (i_ValidHop h _))))))
    refine wpQuiet_nil ?_
    intro w9 hw9
    have h9 := ExtW.out hw9
    clear hw9 q0 q1 q2 q3 q4 q5 q6
    clear hc1 hc2
    go_wp2_with fail
    go_ret
    exact ⟨ret_bool HE.out.symm, hx0.trans h9⟩
  · cases h2 : isAs t h.asn
    · have HE := Lib.hid (show verHop t ts beta h = false by unfold verHop; rw [h1, h2]; rfl)
      refine wp_region_ext (by kernel_rfl) (by kernel_rfl) ?_
      have q0 := ExtW.cell (hc1.1)
      have q1 := ExtW.cell (hc1.2)
      have q2 := ExtW.cell (hc2.1)
      have q3 := ExtW.cell (hc2.2.1)
      have q4 := ExtW.cell (hc2.2.2.1)
      have q5 := ExtW.cell (hc2.2.2.2.1)
      have q6 := ExtW.cell (hc2.2.2.2.2)
      repeat (first | go_big_quiet_step (((first | (go_at_call 115; exact Calls.ext_of (i_ValidHop h _)) | (go_at_call 116; exact Calls.ext_of (i_isAS t _ _ h.asn _ ((ha.ext hx0).ext (ExtW.h _))))))) | quiet_step (((first | (go_at_call 115; exact Calls.ext_of (i_ValidHop h _)) | (go_at_call 116; exact Calls.ext_of (i_isAS t _ _ h.asn _ ((ha.ext hx0).ext (ExtW.h _))))))))
      refine wpQuiet_nil ?_
      intro w9 hw9
      have h9 := ExtW.out hw9
      clear hw9 q0 q1 q2 q3 q4 q5 q6
      clear hc1 hc2
      go_wp2_with fail
      go_ret
      exact ⟨ret_bool HE.out.symm, hx0.trans h9⟩
    · obtain ⟨hp1, hp2⟩ := isAs_lt h2
      have HE := Lib.hid (show verHop t ts beta h = (h.mac == hopMac t.ases[h.asn.toNat].key ts beta h) by unfold verHop; rw [h1, h2, asAt_at hp1 hp2]; rfl)
      obtain ⟨b, off, rfl, hc⟩ := ASd.at (ha.ext hx0) h.asn.toNat hp2
      have hp3 : h.asn < t.ases.length := by omega
      refine wp_region_ext (by kernel_rfl) (by kernel_rfl) ?_
      have q0 := ExtW.cell (hc1.1)
      have q1 := ExtW.cell (hc1.2)
      have q2 := ExtW.cell (hc2.1)
      have q3 := ExtW.cell (hc2.2.1)
      have q4 := ExtW.cell (hc2.2.2.1)
      have q5 := ExtW.cell (hc2.2.2.2.1)
      have q6 := ExtW.cell (hc2.2.2.2.2)
      have q7 := ExtW.cell (hc.1)
      have q8 := ExtW.cell (hc.2.1)
      have q9 := ExtW.cell (hc.2.2)
      repeat (first | go_big_quiet_step (((first | (go_at_call 115; exact Calls.ext_of (i_ValidHop h _)) | (go_at_call 116; exact Calls.ext_of (i_isAS t _ _ h.asn _ ((ha.ext hx0).ext (ExtW.h _)))) | (go_at_call 117; exact Calls.ext_of (i_HopMAC _ _ _ h _))))) | quiet_step (((first | (go_at_call 115; exact Calls.ext_of (i_ValidHop h _)) | (go_at_call 116; exact Calls.ext_of (i_isAS t _ _ h.asn _ ((ha.ext hx0).ext (ExtW.h _)))) | (go_at_call 117; exact Calls.ext_of (i_HopMAC _ _ _ h _))))))
      refine wpQuiet_nil ?_
      intro w9 hw9
      have h9 := ExtW.out hw9
      clear hw9 q0 q1 q2 q3 q4 q5 q6 q7 q8 q9
      clear hc1 hc2
      go_wp2_with fail
      go_ret
      exact ⟨ret_bool HE.out.symm, hx0.trans h9⟩

set_option maxRecDepth 100000 in
set_option maxHeartbeats 2000000 in
theorem s_VerifyHop (t : Topo) (v1 v2 : Value) (ts beta : Int) (h : Hop) (w : World) (ha : RdS ASd.rep w v1 t.ases) :
    Calls Try.prog 122 #[.agg #[v1, v2], .int .i64 ts, .int .i64 beta, .agg #[.int .i64 h.asn, .int .i64 h.ing, .int .i64 h.eg, .int .i64 h.exp, .int .i64 h.mac]] w fun e w' => e = .returned (.bool (verHop t ts beta h)) ∧ Ext w w' := by
  obtain ⟨o, cap, rfl, hsm⟩ := ha.shape
  have hx0 := ext2 w (.cells #[.slice o t.ases.length cap, v2] 59) (.cells #[.int .i64 h.asn, .int .i64 h.ing, .int .i64 h.eg, .int .i64 h.exp, .int .i64 h.mac] 73)
  have HB := Lib.hid (al2 w (.cells #[.slice o t.ases.length cap, v2] 59) (.cells #[.int .i64 h.asn, .int .i64 h.ing, .int .i64 h.eg, .int .i64 h.exp, .int .i64 h.mac] 73))
  go_enter Try.func122, Try.ntmps122

  go_wp2
  have hc1 := blk2 HB.out.1
  have hc2 := blk5 HB.out.2
  cases h1 : validHop h
  · have HE := Lib.hid (show verHop t ts beta h = false by unfold verHop; rw [h1]; rfl)
    refine wp_region_ext (by kernel_rfl) (by kernel_rfl) ?_
    have q0 := ExtW.cell (hc1.1)
    have q1 := ExtW.cell (hc1.2)
    have q2 := ExtW.cell (hc2.1)
    have q3 := ExtW.cell (hc2.2.1)
    have q4 := ExtW.cell (hc2.2.2.1)
    have q5 := ExtW.cell (hc2.2.2.2.1)
    have q6 := ExtW.cell (hc2.2.2.2.2)
    repeat (first | go_big_quiet_step (((first | (go_at_call 157; exact Calls.ext_of (s_ValidHop h _))))) | quiet_step (((first | (go_at_call 157; exact Calls.ext_of (s_ValidHop h _))))))
    refine wpQuiet_nil ?_
    intro w9 hw9
    have h9 := ExtW.out hw9
    clear hw9 q0 q1 q2 q3 q4 q5 q6
    clear hc1 hc2
    go_wp2_with fail
    go_ret
    exact ⟨ret_bool HE.out.symm, hx0.trans h9⟩
  · cases h2 : isAs t h.asn
    · have HE := Lib.hid (show verHop t ts beta h = false by unfold verHop; rw [h1, h2]; rfl)
      refine wp_region_ext (by kernel_rfl) (by kernel_rfl) ?_
      have q0 := ExtW.cell (hc1.1)
      have q1 := ExtW.cell (hc1.2)
      have q2 := ExtW.cell (hc2.1)
      have q3 := ExtW.cell (hc2.2.1)
      have q4 := ExtW.cell (hc2.2.2.1)
      have q5 := ExtW.cell (hc2.2.2.2.1)
      have q6 := ExtW.cell (hc2.2.2.2.2)
      repeat (first | go_big_quiet_step (((first | (go_at_call 157; exact Calls.ext_of (s_ValidHop h _)) | (go_at_call 158; exact Calls.ext_of (s_l5Realm t _ _ h.asn _ ((ha.ext hx0).ext (ExtW.h _))))))) | quiet_step (((first | (go_at_call 157; exact Calls.ext_of (s_ValidHop h _)) | (go_at_call 158; exact Calls.ext_of (s_l5Realm t _ _ h.asn _ ((ha.ext hx0).ext (ExtW.h _))))))))
      refine wpQuiet_nil ?_
      intro w9 hw9
      have h9 := ExtW.out hw9
      clear hw9 q0 q1 q2 q3 q4 q5 q6
      clear hc1 hc2
      go_wp2_with fail
      go_ret
      exact ⟨ret_bool HE.out.symm, hx0.trans h9⟩
    · obtain ⟨hp1, hp2⟩ := isAs_lt h2
      have HE := Lib.hid (show verHop t ts beta h = (h.mac == hopMac t.ases[h.asn.toNat].key ts beta h) by unfold verHop; rw [h1, h2, asAt_at hp1 hp2]; rfl)
      obtain ⟨b, off, rfl, hc⟩ := ASd.at (ha.ext hx0) h.asn.toNat hp2
      have hp3 : h.asn < t.ases.length := by omega
      refine wp_region_ext (by kernel_rfl) (by kernel_rfl) ?_
      have q0 := ExtW.cell (hc1.1)
      have q1 := ExtW.cell (hc1.2)
      have q2 := ExtW.cell (hc2.1)
      have q3 := ExtW.cell (hc2.2.1)
      have q4 := ExtW.cell (hc2.2.2.1)
      have q5 := ExtW.cell (hc2.2.2.2.1)
      have q6 := ExtW.cell (hc2.2.2.2.2)
      have q7 := ExtW.cell (hc.1)
      have q8 := ExtW.cell (hc.2.1)
      have q9 := ExtW.cell (hc.2.2)
      repeat (first | go_big_quiet_step (((first | (go_at_call 157; exact Calls.ext_of (s_ValidHop h _)) | (go_at_call 158; exact Calls.ext_of (s_l5Realm t _ _ h.asn _ ((ha.ext hx0).ext (ExtW.h _)))) | (go_at_call 182; exact Calls.ext_of (s_HopMAC _ _ _ h _))))) | quiet_step (((first | (go_at_call 157; exact Calls.ext_of (s_ValidHop h _)) | (go_at_call 158; exact Calls.ext_of (s_l5Realm t _ _ h.asn _ ((ha.ext hx0).ext (ExtW.h _)))) | (go_at_call 182; exact Calls.ext_of (s_HopMAC _ _ _ h _))))))
      refine wpQuiet_nil ?_
      intro w9 hw9
      have h9 := ExtW.out hw9
      clear hw9 q0 q1 q2 q3 q4 q5 q6 q7 q8 q9
      clear hc1 hc2
      go_wp2_with fail
      go_ret
      exact ⟨ret_bool HE.out.symm, hx0.trans h9⟩

end Go.Proofs.Ytkolfiedakojoaa
