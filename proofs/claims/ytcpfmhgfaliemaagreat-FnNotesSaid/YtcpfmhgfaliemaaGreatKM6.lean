/- What these laws need: FnNotes: Contracts of reading numbers out of bytes and of decoding a revocation, program and reference. Contracts of the admission of reservations, program and reference. -/
import Derived.Deep.LoopGhost
import Derived.Deep.DeepCutAuto
import Derived.IntWalk
import Derived.Test.YtcpfmhgfaliemaaGreatKM5
namespace Go.Proofs.YtcpfmhgfaliemaaGreat
section
open Go.ChangeShapes Go.WideShapes Go.ChangeAt Go.RowKit Go.Deep
theorem ret_tup3 {a b a' b' : Int} {c c' : Bool} (h : (a, b, c) = (a', b', c')) : Ending.returned (.tuple #[.int .i64 a, .int .i64 b, .bool c]) = .returned (.tuple #[.int .i64 a', .int .i64 b', .bool c']) := by cases h; rfl
theorem and127r (x : Int) (h0 : 0 ≤ x) (h1 : x ≤ 255) : bits BinOp.and IntKind.i64 x 127 = x % 128 := by
 have h : ∀ n : Fin 256, bits BinOp.and IntKind.i64 (n.val : Int) 127 = (n.val : Int) % 128 := by decide +kernel
 have := h ⟨x.toNat, by omega⟩
 simpa [Int.toNat_of_nonneg h0] using this
theorem bits_or_add (n y : Int) (k : Nat) (hn : 0 ≤ n) (hk : n < 2 ^ (7 * k)) (hy : 0 ≤ y) (hy2 : y < 128) (hk6 : k < 6) : bits BinOp.or IntKind.i64 n (y * 2 ^ (7 * k)) = n + y * 2 ^ (7 * k) := by
 show IntKind.i64.wrap ((BitVec.ofInt 64 n ||| BitVec.ofInt 64 (y * 2 ^ (7 * k))).toNat : Int) = _
 rw [or_add n y k hn hk hy hy2 hk6]; have hjc : k = 0 ∨ k = 1 ∨ k = 2 ∨ k = 3 ∨ k = 4 ∨ k = 5 := by omega
 refine IntWalk.i64_in _ ?_
 rcases hjc with rfl | rfl | rfl | rfl | rfl | rfl <;> simp only [Nat.mul_zero, Nat.reduceMul, Int.reducePow, Int.pow_zero] at hk ⊢ <;> omega
theorem spec_bits {x m C : Int} {j : Nat} (h0 : 0 ≤ x) (h1 : x ≤ 255) (hm0 : 0 ≤ m) (hm1 : m < 2 ^ (7 * j)) (hj : j < 6) (hC : (2 : Int) ^ (7 * j) = C) (hC0 : 0 < C) (hC1 : C ≤ 34359738368) : bits BinOp.or IntKind.i64 m (wrap64 (bits BinOp.and IntKind.i64 x 127 * C)) = m + x % 128 * 2 ^ (7 * j) := by
 rw [and127r x h0 h1, ← hC]; have hx0 := Int.emod_nonneg x (show (128 : Int) ≠ 0 by decide); have hx1 := Int.emod_lt_of_pos x (show (0 : Int) < 128 by decide); have hp0 : 0 ≤ x % 128 * C := Int.mul_nonneg hx0 (by omega); have hp1 : x % 128 * C ≤ 127 * 34359738368 := Int.mul_le_mul (by omega) hC1 (by omega) (by decide); rw [IntWalk.wrap64_in _ (by rw [hC]; omega)]; exact bits_or_add m _ j hm0 hm1 hx0 hx1 hj
set_option maxRecDepth 100000 in
set_option maxHeartbeats 3000000 in
theorem i_ReadVarint (b : List Int) (v : Value) (a : Int) (w : World) (hv : RdS Rep.byte w v b) (hok : ∀ x ∈ b, U8 x) (hl : b.length ≤ 1048576) (ha0 : -1048576 ≤ a) (ha1 : a ≤ 1048576) :
  Calls Tryz.prog 170 #[v, .int .i64 a] w fun e w' => e = .returned (.tuple #[.int .i64 (readVar b a).1, .int .i64 (readVar b a).2.1, .bool (readVar b a).2.2]) ∧ w = w' := by
 obtain ⟨o, cap, rfl, hsm⟩ := hv.shape
 go_enter Tryz.func170, Tryz.ntmps170
 by_cases ha : a < 0
 ·
  have HR := Lib.hid (show readVar b a = (0, 0, false) from if_pos ha)
  go_wp2_with fail
  go_ret3
  exact ⟨ret_tup3 HR.out.symm, rfl⟩
 obtain ⟨d, rfl⟩ := Int.eq_ofNat_of_zero_le (show 0 ≤ a by omega); have HR := Lib.hid (show rvGo b 6 0 d 0 = readVar b d from (if_neg ha).symm); clear ha ha0
 go_wp2_with fail
 go_loopg [1, 7, 8] 6 (fun gk at_ n k wr => ∃ (j c : Nat) (m : Int), gk + j = 6 ∧ k = .int .i64 j ∧ at_ = .int .i64 c ∧ n = .int .i64 m ∧ (c : Int) ≤ d + j ∧ 0 ≤ m ∧ m < 2 ^ (7 * j) ∧ Hid (rvGo b (6 - j) j c m = readVar b d) ∧ w = wr)
 case atStart => exact ⟨0, d, 0, rfl, rfl, rfl, rfl, by simp, Int.le_refl _, by decide, HR, rfl⟩
 case round =>
  obtain ⟨j, c, m, hgj, rfl, rfl, rfl, hcd, hm0, hm1, HG, rfl⟩ := hrel; have HM := Lib.hid (And.intro hm0 hm1); clear hm0 hm1
  by_cases hj : j < 6
  ·
   have hg0 : gk - 1 + (j + 1) = 6 ∧ gk - 1 < gk := by omega
   have HK := Lib.hid hg0; clear hg0 hgj; have e6 : 6 - j = (6 - (j + 1)) + 1 := by omega
   have HG2 := HG.out; rw [e6] at HG2; have HG3 := Lib.hid HG2; clear HG2 e6 HG
   by_cases hlt : c < b.length
   ·
    obtain ⟨b1, off, rfl, hcell⟩ := bytes_at hv c hlt; obtain ⟨hu0, hu1⟩ := hok b[c] (List.getElem_mem _); have HHU := Lib.hid (And.intro hu0 hu1); generalize hbx : b[c] = x at *; have HBX := Lib.hid hbx; clear hbx
    go_upto_region 9 with (fail)
    go_cut [7] (fun v7 wx => ∃ m2 : Int, v7 = .int .i64 m2 ∧ Hid (m2 = m + x % 128 * 2 ^ (7 * j)) ∧ w = wx)
    case first =>
     obtain ⟨hm0, hm1⟩ := HM.out; have hjc : j = 0 ∨ j = 1 ∨ j = 2 ∨ j = 3 ∨ j = 4 ∨ j = 5 := by omega
     rcases hjc with rfl | rfl | rfl | rfl | rfl | rfl
     ·
      go_wp2_with fail
      go_meet
      refine ⟨_, rfl, Lib.hid ?_, rfl⟩; simp only [Nat.mul_zero, Int.pow_zero, Int.mul_one]
     ·
      go_wp2_with fail
      go_meet
      refine ⟨_, rfl, Lib.hid ?_, rfl⟩; simp only [Nat.reduceMul, Int.reducePow]
     ·
      go_wp2_with fail
      go_meet
      refine ⟨_, rfl, Lib.hid ?_, rfl⟩; simp only [Nat.reduceMul, Int.reducePow]
     ·
      go_wp2_with fail
      go_meet
      refine ⟨_, rfl, Lib.hid ?_, rfl⟩; simp only [Nat.reduceMul, Int.reducePow]
     ·
      go_wp2_with fail
      go_meet
      refine ⟨_, rfl, Lib.hid ?_, rfl⟩; simp only [Nat.reduceMul, Int.reducePow]
     ·
      go_wp2_with fail
      go_meet
      refine ⟨_, rfl, Lib.hid ?_, rfl⟩; simp only [Nat.reduceMul, Int.reducePow]
    case rest =>
    obtain ⟨m2, rfl, HM2, rfl⟩ := hcut; obtain ⟨hm0, hm1⟩ := HM.out; have hxm0 := Int.emod_nonneg x (show (128 : Int) ≠ 0 by decide); have hxm1 := Int.emod_lt_of_pos x (show (0 : Int) < 128 by decide)
    have hnew : 0 ≤ m2 ∧ m2 < 2 ^ (7 * (j + 1)) := by
     rw [HM2.out]; have hjc : j = 0 ∨ j = 1 ∨ j = 2 ∨ j = 3 ∨ j = 4 ∨ j = 5 := by omega
     rcases hjc with rfl | rfl | rfl | rfl | rfl | rfl <;> simp only [Nat.mul_zero, Nat.reduceMul, Nat.reduceAdd, Int.reducePow, Int.pow_zero] at hm1 ⊢ <;> omega
    have HN := Lib.hid hnew
    have hm2b : 0 ≤ m2 ∧ m2 < 4398046511104 := by
     refine ⟨hnew.1, Int.lt_of_lt_of_le hnew.2 ?_⟩; have hjc : j = 0 ∨ j = 1 ∨ j = 2 ∨ j = 3 ∨ j = 4 ∨ j = 5 := by omega
     rcases hjc with rfl | rfl | rfl | rfl | rfl | rfl <;> decide
    obtain ⟨hq0, hq1⟩ := hm2b; clear hnew hm0 hm1 hxm0 hxm1
    by_cases hx8 : x < 128
    ·
     by_cases hbig : 1000000000000 < m2
     ·
      by_cases hxz : x = 0
      ·
       subst hxz
       by_cases hjz : 0 < j
       ·
        have HE : Hid (readVar b d = (0, 0, false)) := Lib.hid (by rw [← HG3.out]; exact rvGo_bad hlt (by rw [HBX.out]; omega) (by rw [HBX.out, ← HM2.out]; simp; omega))
        go_wp2_with fail
        go_ret3
        exact ⟨ret_tup3 HE.out.symm, rfl⟩
       ·
        have HE : Hid (readVar b d = (0, 0, false)) := Lib.hid (by rw [← HG3.out]; exact rvGo_bad hlt (by rw [HBX.out]; omega) (by rw [HBX.out, ← HM2.out]; simp; omega))
        go_wp2_with fail
        go_ret3
        exact ⟨ret_tup3 HE.out.symm, rfl⟩
      ·
       have hxz2 : (x == 0) = false := by rw [beq_eq_false_iff_ne]; exact hxz
       have HE : Hid (readVar b d = (0, 0, false)) := Lib.hid (by rw [← HG3.out]; exact rvGo_bad hlt (by rw [HBX.out]; omega) (by rw [HBX.out, ← HM2.out]; simp; omega))
       go_wp2_with fail
       go_ret3
       exact ⟨ret_tup3 HE.out.symm, rfl⟩
     ·
      by_cases hxz : x = 0
      ·
       subst hxz
       by_cases hjz : 0 < j
       ·
        have HE : Hid (readVar b d = (0, 0, false)) := Lib.hid (by rw [← HG3.out]; exact rvGo_bad hlt (by rw [HBX.out]; omega) (by rw [HBX.out, ← HM2.out]; simp; omega))
        go_wp2_with fail
        go_ret3
        exact ⟨ret_tup3 HE.out.symm, rfl⟩
       ·
        have HE : Hid (readVar b d = (m2, ((c : Int) + 1), true)) := Lib.hid (by rw [← HG3.out, rvGo_ok hlt (by rw [HBX.out]; omega) (by rw [HBX.out, ← HM2.out]; simp; omega), HBX.out, ← HM2.out])
        go_wp2_with fail
        go_ret3
        exact ⟨ret_tup3 (by rw [HE.out]), rfl⟩
      ·
       have hxz2 : (x == 0) = false := by rw [beq_eq_false_iff_ne]; exact hxz
       have HE : Hid (readVar b d = (m2, ((c : Int) + 1), true)) := Lib.hid (by rw [← HG3.out, rvGo_ok hlt (by rw [HBX.out]; omega) (by rw [HBX.out, ← HM2.out]; simp; omega), HBX.out, ← HM2.out])
       go_wp2_with fail
       go_ret3
       exact ⟨ret_tup3 (by rw [HE.out]), rfl⟩
    ·
     have HE : Hid (rvGo b (6 - (j + 1)) (j + 1) (c + 1) m2 = readVar b d) := Lib.hid (by rw [← HG3.out, rvGo_more hlt (by rw [HBX.out]; omega), HBX.out, ← HM2.out])
     go_wp2_with fail
     go_roundg (gk - 1)
     case measure => exact HK.out.2
     case rel => exact ⟨j + 1, c + 1, m2, HK.out.1, by go_num, by go_num, rfl, by omega, HN.out.1, HN.out.2, HE, rfl⟩
   ·
    have HE : Hid (readVar b d = (0, 0, false)) := Lib.hid (by rw [← HG3.out]; exact rvGo_end hlt)
    go_wp2_with fail
    go_ret3
    exact ⟨ret_tup3 HE.out.symm, rfl⟩
  ·
   have HE : Hid (readVar b d = (0, 0, false)) := Lib.hid (by rw [← HG.out, show 6 - j = 0 by omega]; rfl)
   go_wp2_with fail
   go_ret3
   exact ⟨ret_tup3 HE.out.symm, rfl⟩
set_option maxRecDepth 100000 in
set_option maxHeartbeats 3000000 in
theorem s_ReadVarint (b : List Int) (v : Value) (a : Int) (w : World) (hv : RdS Rep.byte w v b) (hok : ∀ x ∈ b, U8 x) (hl : b.length ≤ 1048576) (ha0 : -1048576 ≤ a) (ha1 : a ≤ 1048576) :
  Calls Tryz.prog 171 #[v, .int .i64 a] w fun e w' => e = .returned (.tuple #[.int .i64 (readVar b a).1, .int .i64 (readVar b a).2.1, .bool (readVar b a).2.2]) ∧ w = w' := by
 obtain ⟨o, cap, rfl, hsm⟩ := hv.shape
 go_enter Tryz.func171, Tryz.ntmps171
 by_cases ha : a < 0
 ·
  have HR := Lib.hid (show readVar b a = (0, 0, false) from if_pos ha)
  go_wp2_with fail
  refine wp_loop_rounds 1 ?_; rw [rounds_succ]
  go_wp2_with fail
  go_ret3
  exact ⟨ret_tup3 HR.out.symm, rfl⟩
 obtain ⟨d, rfl⟩ := Int.eq_ofNat_of_zero_le (show 0 ≤ a by omega); have HR := Lib.hid (show rvGo b 6 0 d 0 = readVar b d from (if_neg ha).symm); clear ha ha0
 go_wp2_with fail
 go_loopg [7, 8] 6 (fun gk n k wr => ∃ (j : Nat) (m : Int), gk + j = 6 ∧ k = .int .i64 j ∧ n = .int .i64 m ∧ 0 ≤ m ∧ m < 2 ^ (7 * j) ∧ Hid (rvGo b (6 - j) j (d + j) m = readVar b d) ∧ w = wr)
 case atStart => exact ⟨0, 0, rfl, rfl, rfl, Int.le_refl _, by decide, HR, rfl⟩
 case round =>
  obtain ⟨j, m, hgj, rfl, rfl, hm0, hm1, HG, rfl⟩ := hrel; have HM := Lib.hid (And.intro hm0 hm1); clear hm0 hm1
  by_cases hj : j < 6
  ·
   have hg0 : gk - 1 + (j + 1) = 6 ∧ gk - 1 < gk := by omega
   have HK := Lib.hid hg0; clear hg0 hgj; have e6 : 6 - j = (6 - (j + 1)) + 1 := by omega
   have HG2 := HG.out; rw [e6] at HG2; have HG3 := Lib.hid HG2; clear HG2 e6 HG
   by_cases hlt : (d + j) < b.length
   ·
    obtain ⟨b1, off, rfl, hcell⟩ := bytes_at hv (d + j) hlt; obtain ⟨hu0, hu1⟩ := hok b[(d + j)] (List.getElem_mem _); have HHU := Lib.hid (And.intro hu0 hu1); generalize hbx : b[(d + j)] = x at *; have HBX := Lib.hid hbx; clear hbx
    go_upto_region 8 with (fail)
    go_cut [7] (fun v7 wx => ∃ m2 : Int, v7 = .int .i64 m2 ∧ Hid (m2 = m + x % 128 * 2 ^ (7 * j)) ∧ w = wx)
    case first =>
     obtain ⟨hm0, hm1⟩ := HM.out; have hjc : j = 0 ∨ j = 1 ∨ j = 2 ∨ j = 3 ∨ j = 4 ∨ j = 5 := by omega
     rcases hjc with rfl | rfl | rfl | rfl | rfl | rfl
     ·
      go_wp2_with fail
      go_meet
      refine ⟨_, rfl, Lib.hid ?_, rfl⟩; have h := spec_bits (j := 0) (C := 1) HHU.out.1 HHU.out.2 hm0 hm1 (by decide) (by decide) (by decide) (by decide); rw [Int.mul_one] at h; exact h
     ·
      go_wp2_with fail
      go_meet
      refine ⟨_, rfl, Lib.hid ?_, rfl⟩; have h := spec_bits (j := 1) (C := 128) HHU.out.1 HHU.out.2 hm0 hm1 (by decide) (by decide) (by decide) (by decide); exact h
     ·
      go_wp2_with fail
      go_meet
      refine ⟨_, rfl, Lib.hid ?_, rfl⟩; have h := spec_bits (j := 2) (C := 16384) HHU.out.1 HHU.out.2 hm0 hm1 (by decide) (by decide) (by decide) (by decide); exact h
     ·
      go_wp2_with fail
      go_meet
      refine ⟨_, rfl, Lib.hid ?_, rfl⟩; have h := spec_bits (j := 3) (C := 2097152) HHU.out.1 HHU.out.2 hm0 hm1 (by decide) (by decide) (by decide) (by decide); exact h
     ·
      go_wp2_with fail
      go_meet
      refine ⟨_, rfl, Lib.hid ?_, rfl⟩; have h := spec_bits (j := 4) (C := 268435456) HHU.out.1 HHU.out.2 hm0 hm1 (by decide) (by decide) (by decide) (by decide); exact h
     ·
      go_wp2_with fail
      go_meet
      refine ⟨_, rfl, Lib.hid ?_, rfl⟩; have h := spec_bits (j := 5) (C := 34359738368) HHU.out.1 HHU.out.2 hm0 hm1 (by decide) (by decide) (by decide) (by decide); exact h
    case rest =>
    obtain ⟨m2, rfl, HM2, rfl⟩ := hcut; obtain ⟨hm0, hm1⟩ := HM.out; have hxm0 := Int.emod_nonneg x (show (128 : Int) ≠ 0 by decide); have hxm1 := Int.emod_lt_of_pos x (show (0 : Int) < 128 by decide)
    have hnew : 0 ≤ m2 ∧ m2 < 2 ^ (7 * (j + 1)) := by
     rw [HM2.out]; have hjc : j = 0 ∨ j = 1 ∨ j = 2 ∨ j = 3 ∨ j = 4 ∨ j = 5 := by omega
     rcases hjc with rfl | rfl | rfl | rfl | rfl | rfl <;> simp only [Nat.mul_zero, Nat.reduceMul, Nat.reduceAdd, Int.reducePow, Int.pow_zero] at hm1 ⊢ <;> omega
    have HN := Lib.hid hnew
    have hm2b : 0 ≤ m2 ∧ m2 < 4398046511104 := by
     refine ⟨hnew.1, Int.lt_of_lt_of_le hnew.2 ?_⟩; have hjc : j = 0 ∨ j = 1 ∨ j = 2 ∨ j = 3 ∨ j = 4 ∨ j = 5 := by omega
     rcases hjc with rfl | rfl | rfl | rfl | rfl | rfl <;> decide
    obtain ⟨hq0, hq1⟩ := hm2b; clear hnew hm0 hm1 hxm0 hxm1
    by_cases hx8 : x < 128
    ·
     by_cases hbig : 1000000000000 < m2
     ·
      by_cases hxz : x = 0
      ·
       subst hxz
       by_cases hjz : 0 < j
       ·
        have HE : Hid (readVar b d = (0, 0, false)) := Lib.hid (by rw [← HG3.out]; exact rvGo_bad hlt (by rw [HBX.out]; omega) (by rw [HBX.out, ← HM2.out]; simp; omega))
        go_wp2_with fail
        go_ret3
        exact ⟨ret_tup3 HE.out.symm, rfl⟩
       ·
        have HE : Hid (readVar b d = (0, 0, false)) := Lib.hid (by rw [← HG3.out]; exact rvGo_bad hlt (by rw [HBX.out]; omega) (by rw [HBX.out, ← HM2.out]; simp; omega))
        go_wp2_with fail
        go_ret3
        exact ⟨ret_tup3 HE.out.symm, rfl⟩
      ·
       have hxz2 : (x == 0) = false := by rw [beq_eq_false_iff_ne]; exact hxz
       have HE : Hid (readVar b d = (0, 0, false)) := Lib.hid (by rw [← HG3.out]; exact rvGo_bad hlt (by rw [HBX.out]; omega) (by rw [HBX.out, ← HM2.out]; simp; omega))
       go_wp2_with fail
       go_ret3
       exact ⟨ret_tup3 HE.out.symm, rfl⟩
     ·
      by_cases hxz : x = 0
      ·
       subst hxz
       by_cases hjz : 0 < j
       ·
        have HE : Hid (readVar b d = (0, 0, false)) := Lib.hid (by rw [← HG3.out]; exact rvGo_bad hlt (by rw [HBX.out]; omega) (by rw [HBX.out, ← HM2.out]; simp; omega))
        go_wp2_with fail
        go_ret3
        exact ⟨ret_tup3 HE.out.symm, rfl⟩
       ·
        have HE : Hid (readVar b d = (m2, (((d + j : Nat) : Int) + 1), true)) := Lib.hid (by rw [← HG3.out, rvGo_ok hlt (by rw [HBX.out]; omega) (by rw [HBX.out, ← HM2.out]; simp; omega), HBX.out, ← HM2.out])
        go_wp2_with fail
        go_ret3
        exact ⟨ret_tup3 (by rw [HE.out]; simp), rfl⟩
      ·
       have hxz2 : (x == 0) = false := by rw [beq_eq_false_iff_ne]; exact hxz
       have HE : Hid (readVar b d = (m2, (((d + j : Nat) : Int) + 1), true)) := Lib.hid (by rw [← HG3.out, rvGo_ok hlt (by rw [HBX.out]; omega) (by rw [HBX.out, ← HM2.out]; simp; omega), HBX.out, ← HM2.out])
       go_wp2_with fail
       go_ret3
       exact ⟨ret_tup3 (by rw [HE.out]; simp), rfl⟩
    ·
     have HE : Hid (rvGo b (6 - (j + 1)) (j + 1) ((d + j) + 1) m2 = readVar b d) := Lib.hid (by rw [← HG3.out, rvGo_more hlt (by rw [HBX.out]; omega), HBX.out, ← HM2.out])
     go_wp2_with fail
     go_roundg (gk - 1)
     case measure => exact HK.out.2
     case rel => exact ⟨j + 1, m2, HK.out.1, by go_num, rfl, HN.out.1, HN.out.2, HE, rfl⟩
   ·
    have HE : Hid (readVar b d = (0, 0, false)) := Lib.hid (by rw [← HG3.out]; exact rvGo_end hlt); have hlt2 : (b.length : Int) - j ≤ d := by omega
    go_wp2_with fail
    go_ret3
    exact ⟨ret_tup3 HE.out.symm, rfl⟩
  ·
   have HE : Hid (readVar b d = (0, 0, false)) := Lib.hid (by rw [← HG.out, show 6 - j = 0 by omega]; rfl)
   go_wp2_with fail
   go_ret3
   exact ⟨ret_tup3 HE.out.symm, rfl⟩
set_option maxRecDepth 100000 in
set_option maxHeartbeats 3000000 in
theorem i_DecodeInts (b : List Int) (v : Value) (a n : Int) (w : World) (hv : RdS Rep.byte w v b) (hok : ∀ x ∈ b, U8 x) (hl : b.length ≤ 1048576) :
  Calls Tryz.prog 90 #[v, .int .i64 a, .int .i64 n] w fun e w' => ∃ v', e = .returned (.tuple #[v', .int .i64 (decInts b a n).2.1, .bool (decInts b a n).2.2]) ∧ OwnF intF 1 w.heap.size 3 w' v' (decInts b a n).1 ∧ Ext w w' := by
 obtain ⟨E⟩ := elemInt; obtain ⟨o, cap, rfl, hsm⟩ := hv.shape
 go_enter Tryz.func90, Tryz.ntmps90
 go_wp2_with fail
 refine (i_InRange _ _ _ _).mono ?_; rintro e _ ⟨rfl, rfl⟩
 cases hn : inR n 0 100
 case false =>
  have HE : Hid (decInts b a n = ([], 0, false)) := Lib.hid (by unfold decInts; rw [hn]; rfl)
  go_wp2_with fail
  go_ret3
  rw [HE.out]; exact ⟨_, rfl, OwnF.nil _ _ _ _ _, Ext.refl _⟩
 case true =>
  obtain ⟨hn0, hn1⟩ := inR_true.1 hn
  go_wp2_with fail
  refine (i_InRange _ _ _ _).mono ?_; rintro e _ ⟨rfl, rfl⟩
  cases ha : inR a 0 b.length
  case false =>
   have HE : Hid (decInts b a n = ([], 0, false)) := Lib.hid (by unfold decInts; rw [hn, ha]; rfl)
   go_wp2_with fail
   go_ret3
   rw [HE.out]; exact ⟨_, rfl, OwnF.nil _ _ _ _ _, Ext.refl _⟩
  case true =>
   obtain ⟨ha0, ha1⟩ := inR_true.1 ha; have HE : Hid (decGo b n.toNat a [] = decInts b a n) := Lib.hid (by unfold decInts; rw [hn, ha]; rfl); clear hn ha; obtain ⟨m, rfl⟩ := Int.eq_ofNat_of_zero_le hn0; clear hn0
   go_wp2_with fail
   go_loopg [1, 9, 10] m (fun gk at_ out k wr => ∃ (j : Nat) (c : Int) (l : List Int), gk + j = m ∧ k = .int .i64 j ∧ at_ = .int .i64 c ∧ l.length = j ∧ 0 ≤ c ∧ c ≤ b.length ∧ OwnF intF 1 w.heap.size 3 wr out l ∧ Hid (decGo b (m - j) c l = decInts b a m) ∧ Ext w wr)
   case atStart => exact ⟨0, a, [], rfl, rfl, rfl, rfl, ha0, ha1, OwnF.nil _ _ _ _ _, HE, Ext.refl _⟩
   case round =>
    obtain ⟨j, c, l, hgj, rfl, rfl, hlj, hc0, hc1, hown, HG, hx⟩ := hrel; have HLJ := Lib.hid hlj; have hlj2 : l.length ≤ j := by omega
    clear hlj
    by_cases hj : j < m
    ·
     have hg0 : gk - 1 + (j + 1) = m ∧ gk - 1 < gk := by omega
     have HK := Lib.hid hg0; clear hg0 hgj; have HG3 : Hid (decGo b (m - (j + 1) + 1) c l = decInts b a m) := Lib.hid (by rw [show m - (j + 1) + 1 = m - j by omega]; exact HG.out); clear HG; have con := i_ReadVarint b _ c _ (hv.ext hx) hok hl (by omega) (by omega); have hat := fun h => readVar_at (b := b) (a := c) h
     obtain ⟨rv, hrv⟩ : ∃ rv, readVar b c = rv := ⟨_, rfl⟩
     rw [hrv] at con hat; obtain ⟨x, nx, ok⟩ := rv; have HRV := Lib.hid hrv; clear hrv; have CON := Lib.hid con; clear con; have HAT := Lib.hid hat; clear hat
     go_wp2_with fail
     refine CON.out.mono ?_; rintro e _ ⟨rfl, rfl⟩
     cases ok
     case false =>
      have HE2 : Hid (decInts b a m = ([], 0, false)) := Lib.hid (by rw [← HG3.out]; unfold decGo; rw [HRV.out]; rfl)
      go_wp2_with fail
      go_ret3
      rw [HE2.out]; exact ⟨_, rfl, OwnF.nil _ _ _ _ _, hx⟩
     case true =>
      obtain ⟨hn2, hn3⟩ := HAT.out rfl; have HE2 : Hid (decGo b (m - (j + 1)) nx (l ++ [x]) = decInts b a m) := Lib.hid (by rw [← HG3.out]; (conv => rhs; unfold decGo); rw [HRV.out]; rfl)
      go_wp2_with (at_builtin; refine app1 E intFlen intOne rfl _ _ rfl x rfl (OwnF.ext hown ((Ext.refl _).alloc _)) rfl (by exact blk_list (intF x) (blk_new wr _)) (by omega) (by unfold maxLen; omega) (by exact (hx.alloc _).size) ?_)
      intro v' w' ho' hg'; have hx' := Ext.app (hx.alloc (.cells #[.int .i64 x] 3)) hg' hown (Nat.le_refl _); clear hg'
      go_wp2_with fail
      go_roundg (gk - 1)
      case measure => exact HK.out.2
      case rel => exact ⟨j + 1, nx, l ++ [x], HK.out.1, by go_num, rfl, by rw [List.length_append, HLJ.out]; rfl, hn2, hn3, ho', HE2, hx'⟩
    ·
     have HE2 : Hid (decInts b a m = (l, c, true)) := Lib.hid (by rw [← HG.out, show m - j = 0 by omega]; rfl)
     go_wp2_with fail
     go_ret3
     rw [HE2.out]; exact ⟨_, rfl, hown, hx⟩
set_option maxRecDepth 100000 in
set_option maxHeartbeats 3000000 in
theorem s_DecodeInts (b : List Int) (v : Value) (a n : Int) (w : World) (hv : RdS Rep.byte w v b) (hok : ∀ x ∈ b, U8 x) (hl : b.length ≤ 1048576) :
  Calls Tryz.prog 91 #[v, .int .i64 a, .int .i64 n] w fun e w' => ∃ v', e = .returned (.tuple #[v', .int .i64 (decInts b a n).2.1, .bool (decInts b a n).2.2]) ∧ OwnF intF 1 w.heap.size 3 w' v' (decInts b a n).1 ∧ Ext w w' := by
 obtain ⟨E⟩ := elemInt; obtain ⟨o, cap, rfl, hsm⟩ := hv.shape
 go_enter Tryz.func91, Tryz.ntmps91
 go_wp2_with fail
 refine (s_l1In _ _ _ _).mono ?_; rintro e _ ⟨rfl, rfl⟩
 cases hn : inR n 0 100
 case false =>
  have HE : Hid (decInts b a n = ([], 0, false)) := Lib.hid (by unfold decInts; rw [hn]; rfl)
  go_wp2_with fail
  go_ret3
  rw [HE.out]; exact ⟨_, rfl, OwnF.empty intF 1 w.heap.size 3 w (Nat.le_refl _), (Ext.refl _).alloc _⟩
 case true =>
  obtain ⟨hn0, hn1⟩ := inR_true.1 hn
  go_wp2_with fail
  refine (s_l1In _ _ _ _).mono ?_; rintro e _ ⟨rfl, rfl⟩
  cases ha : inR a 0 b.length
  case false =>
   have HE : Hid (decInts b a n = ([], 0, false)) := Lib.hid (by unfold decInts; rw [hn, ha]; rfl)
   go_wp2_with fail
   go_ret3
   rw [HE.out]; exact ⟨_, rfl, OwnF.empty intF 1 w.heap.size 3 w (Nat.le_refl _), (Ext.refl _).alloc _⟩
  case true =>
   obtain ⟨ha0, ha1⟩ := inR_true.1 ha; have HE : Hid (decGo b n.toNat a [] = decInts b a n) := Lib.hid (by unfold decInts; rw [hn, ha]; rfl); clear hn ha; obtain ⟨m, rfl⟩ := Int.eq_ofNat_of_zero_le hn0; clear hn0
   go_wp2_with fail
   go_loopg [1, 9, 10] m (fun gk at_ out k wr => ∃ (j : Nat) (c : Int) (l : List Int), gk + j = m ∧ k = .int .i64 j ∧ at_ = .int .i64 c ∧ l.length = j ∧ 0 ≤ c ∧ c ≤ b.length ∧ OwnF intF 1 w.heap.size 3 wr out l ∧ Hid (decGo b (m - j) c l = decInts b a m) ∧ Ext w wr)
   case atStart => exact ⟨0, a, [], rfl, rfl, rfl, rfl, ha0, ha1, OwnF.empty intF 1 w.heap.size 3 w (Nat.le_refl _), HE, (Ext.refl _).alloc _⟩
   case round =>
    obtain ⟨j, c, l, hgj, rfl, rfl, hlj, hc0, hc1, hown, HG, hx⟩ := hrel; have HLJ := Lib.hid hlj; have hlj2 : l.length ≤ j := by omega
    clear hlj
    by_cases hj : j < m
    ·
     have hg0 : gk - 1 + (j + 1) = m ∧ gk - 1 < gk := by omega
     have HK := Lib.hid hg0; clear hg0 hgj; have HG3 : Hid (decGo b (m - (j + 1) + 1) c l = decInts b a m) := Lib.hid (by rw [show m - (j + 1) + 1 = m - j by omega]; exact HG.out); clear HG; have con := s_ReadVarint b _ c _ (hv.ext hx) hok hl (by omega) (by omega); have hat := fun h => readVar_at (b := b) (a := c) h
     obtain ⟨rv, hrv⟩ : ∃ rv, readVar b c = rv := ⟨_, rfl⟩
     rw [hrv] at con hat; obtain ⟨x, nx, ok⟩ := rv; have HRV := Lib.hid hrv; clear hrv; have CON := Lib.hid con; clear con; have HAT := Lib.hid hat; clear hat
     go_wp2_with fail
     refine CON.out.mono ?_; rintro e _ ⟨rfl, rfl⟩
     cases ok
     case false =>
      have HE2 : Hid (decInts b a m = ([], 0, false)) := Lib.hid (by rw [← HG3.out]; unfold decGo; rw [HRV.out]; rfl)
      go_wp2_with fail
      go_ret3
      rw [HE2.out]; exact ⟨_, rfl, (OwnF.empty intF 1 wr.heap.size 3 wr (Nat.le_refl _)).mono hx.size, hx.alloc _⟩
     case true =>
      obtain ⟨hn2, hn3⟩ := HAT.out rfl; have HE2 : Hid (decGo b (m - (j + 1)) nx (l ++ [x]) = decInts b a m) := Lib.hid (by rw [← HG3.out]; (conv => rhs; unfold decGo); rw [HRV.out]; rfl)
      go_wp2_with (at_builtin; refine app1 E intFlen intOne rfl _ _ rfl x rfl (OwnF.ext hown ((Ext.refl _).alloc _)) rfl (by exact blk_list (intF x) (blk_new wr _)) (by omega) (by unfold maxLen; omega) (by exact (hx.alloc _).size) ?_)
      intro v' w' ho' hg'; have hx' := Ext.app (hx.alloc (.cells #[.int .i64 x] 3)) hg' hown (Nat.le_refl _); clear hg'
      go_wp2_with fail
      go_roundg (gk - 1)
      case measure => exact HK.out.2
      case rel => exact ⟨j + 1, nx, l ++ [x], HK.out.1, by go_num, rfl, by rw [List.length_append, HLJ.out]; rfl, hn2, hn3, ho', HE2, hx'⟩
    ·
     have HE2 : Hid (decInts b a m = (l, c, true)) := Lib.hid (by rw [← HG.out, show m - j = 0 by omega]; rfl)
     go_wp2_with fail
     go_ret3
     rw [HE2.out]; exact ⟨_, rfl, hown, hx⟩
def revOf : List Int → Revc
 | [a, i, t] => ⟨a, i, t⟩
 | _ => ⟨0, 0, 0⟩
def decRev (b : List Int) : Revc × Bool :=
 if (decInts b 0 3).2.2 && ((decInts b 0 3).2.1 == b.length) && validRev (revOf (decInts b 0 3).1) then (revOf (decInts b 0 3).1, true) else (⟨0, 0, 0⟩, false)
theorem decRev_no {b : List Int} (h : ((decInts b 0 3).2.2 && ((decInts b 0 3).2.1 == b.length) && validRev (revOf (decInts b 0 3).1)) = false) : decRev b = (⟨0, 0, 0⟩, false) := by unfold decRev; rw [h]; rfl
theorem decRev_yes {b : List Int} (h : ((decInts b 0 3).2.2 && ((decInts b 0 3).2.1 == b.length) && validRev (revOf (decInts b 0 3).1)) = true) : decRev b = (revOf (decInts b 0 3).1, true) := by unfold decRev; rw [h]; rfl
theorem three {l : List Int} (h : (l.length : Int) = 3) : ∃ a i t, l = [a, i, t] := len3 (by omega)
theorem Rev3.set {w : World} {g : Nat} {x0 x1 x2 : Value} {t : TypeId} (h : w.heap[g]? = some (.cells #[x0, x1, x2] t (0, 0))) (y0 y1 y2 : Value) : ∃ w5, w5 = ((w.setCell ⟨g, 0, none⟩ y0).setCell ⟨g, 1, none⟩ y1).setCell ⟨g, 2, none⟩ y2 ∧ w5.heap[g]? = some (.cells #[y0, y1, y2] t (0, 0)) := ⟨_, rfl, blk_set3 h y0 y1 y2⟩
set_option maxRecDepth 100000 in
set_option maxHeartbeats 3000000 in
theorem i_DecodeRevocation (b : List Int) (v : Value) (w : World) (hv : RdS Rep.byte w v b) (hok : ∀ x ∈ b, U8 x) (hl : b.length ≤ 1048576) :
  Calls Tryz.prog 15 #[v] w fun e w' => e = .returned (.tuple #[.agg #[.int .i64 (decRev b).1.asn, .int .i64 (decRev b).1.iface, .int .i64 (decRev b).1.till], .bool (decRev b).2]) ∧ Ext w w' := by
 obtain ⟨o, cap, rfl, hsm⟩ := hv.shape; have hx0 : Ext w (w.alloc (.cells #[.int .i64 0, .int .i64 0, .int .i64 0] 30)) := (Ext.refl _).alloc _; have HB0 := Lib.hid (blk_new w (.cells #[.int .i64 0, .int .i64 0, .int .i64 0] 30))
 go_enter Tryz.func15, Tryz.ntmps15
 have hlen := fun h => decInts_len (b := b) (a := 0) (n := 3) h
 obtain ⟨d, hd⟩ : ∃ d, decInts b 0 3 = d := ⟨_, rfl⟩
 have con := fun (w1 : World) hv1 => i_DecodeInts b (.slice o b.length cap) 0 3 w1 hv1 hok hl
 rw [hd] at con hlen; obtain ⟨l, c, ok⟩ := d; have HD := Lib.hid hd; clear hd; have CON := Lib.hid con; clear con; have HLEN := Lib.hid hlen; clear hlen
 go_wp2_with fail
 refine (CON.out _ (hv.ext hx0)).mono ?_; rintro e w1 ⟨u, rfl, hown, hz1⟩
 cases ok
 case false =>
  have HE : Hid (decRev b = (⟨0, 0, 0⟩, false)) := Lib.hid (decRev_no (by rw [HD.out]; rfl)); have HRB := Lib.hid (Ext.block hz1 HB0.out); obtain ⟨wc, hwc, hrc⟩ := Rev3.set HRB.out (.int .i64 0) (.int .i64 0) (.int .i64 0); have hxc : Ext w wc := by rw [hwc]; exact ext_set3 (hx0.t hz1) (Nat.le_refl _) _ _ _
  have hsz : wc.heap.size = w1.heap.size := by rw [hwc]; simp
  have HWC := Lib.hid hwc; have HRC := Lib.hid hrc; have HXC := Lib.hid hxc; clear hwc hrc hxc; have cR := blk3 HRB.out; have fR0 := fr_of HRB.out 0; have fR1 := fr_of HRB.out 1; have fR2 := fr_of HRB.out 2; have cf1 := blk3 (Ext.block hz1 HB0.out)
  go_wp2_with fail
  rw [← HWC.out]; clear fR0 fR1 fR2 cR cf1; have cc := blk3 HRC.out; refine bodyPost_ret (v := .tuple #[.agg #[.int .i64 0, .int .i64 0, .int .i64 0], .bool false]) (by simp [results, Tryz.results15, go_sem, cc]) rfl ?_; rw [HE.out]; exact ⟨rfl, HXC.out⟩
 case true =>
  obtain ⟨x0, x1, x2, rfl⟩ := three (HLEN.out rfl)
  by_cases hcb : c = b.length
  ·
   have hcb2 : (c == (b.length : Int)) = true := by rw [beq_iff_eq]; exact hcb
   have hcb3 : (c != (b.length : Int)) = false := by simp only [bne, hcb2]; rfl
   have HCB := Lib.hid hcb2; clear hcb hcb2; obtain ⟨g, cg, hve, _, _⟩ := hown.some_shape (by simp); subst hve; have hi0 := ints_own_at hown 0 (by simp); have hi1 := ints_own_at hown 1 (by simp); have hi2 := ints_own_at hown 2 (by simp); simp only [List.getElem_cons_zero, List.getElem_cons_succ] at hi0 hi1 hi2; have HOWN := Lib.hid hown; clear hown
   go_wp2_with fail
   refine planStep (.blk [0, 1, 2, 3, 4, 5, 6, 7, 8, 9] (.one 10 (.one 11 .done))) [11] (by kernel_rfl) (by kernel_rfl) ?_; refine blkStep (fun K HK => ?_); simp only [PK]
   go_wp2_with fail
   refine HK.out _ _ ?_; clear HK K hi0 hi1 hi2; refine oneStep (fun K HK => ?_); simp only [PK]
   go_wp2_with fail
   refine HK.out _ _ ((Ext.refl _).alloc _) ?_; clear HK K; have hba := blk_new w1.drew (.cells #[.int .i64 0, .int .i64 0, .int .i64 0] 30); have ca := blk3 hba; have fa0 := fr_of hba 0; have fa1 := fr_of hba 1; have fa2 := fr_of hba 2; clear hba; refine badStep (by kernel_rfl) (fun K HK => ?_); simp only [PK]
   go_wp2_with fail
   refine HK.out _ _ ?_; clear HK K; refine doneStep (by kernel_rfl) ?_; clear ca fa0 fa1 fa2
   obtain ⟨wc7, hwc7⟩ : ∃ wA : World, wA = (w1.alloc (.cells #[.int .i64 x0, .int .i64 x1, .int .i64 x2] 30)).drew := ⟨_, rfl⟩
   have hx7 : Ext w1 wc7 := by rw [hwc7]; exact ((Ext.refl _).alloc _).drew
   have HRC7 : Hid (wc7.heap[w1.heap.size]? = some (.cells #[.int .i64 x0, .int .i64 x1, .int .i64 x2] 30)) := Lib.hid (by rw [hwc7]; exact blk_new w1 _); rw [← hwc7]; clear hwc7; have cf2 := blk3 (Ext.block (hz1.t hx7) HB0.out); have cf3 := blk3 HRC7.out
   go_wp2_with fail
   refine (i_ValidRevocation ⟨x0, x1, x2⟩ _).mono ?_; rintro e w2 ⟨rfl, hz2⟩
   cases hva : validRev ⟨x0, x1, x2⟩
   case false =>
    have HE : Hid (decRev b = (⟨0, 0, 0⟩, false)) := Lib.hid (decRev_no (by rw [HD.out]; simp only [revOf, hva, Bool.and_false])); have HRB := Lib.hid (Ext.block ((hz1.t hx7).t hz2) HB0.out); obtain ⟨wc, hwc, hrc⟩ := Rev3.set HRB.out (.int .i64 0) (.int .i64 0) (.int .i64 0); have hxc : Ext w wc := by rw [hwc]; exact ext_set3 (((hx0.t hz1).t hx7).t hz2) (Nat.le_refl _) _ _ _
    have hsz : wc.heap.size = w2.heap.size := by rw [hwc]; simp
    have HWC := Lib.hid hwc; have HRC := Lib.hid hrc; have HXC := Lib.hid hxc; clear hwc hrc hxc; have cR := blk3 HRB.out; have fR0 := fr_of HRB.out 0; have fR1 := fr_of HRB.out 1; have fR2 := fr_of HRB.out 2
    try clear cf2
    try clear cf3
    have cf4 := blk3 (Ext.block ((hz1.t hx7).t hz2) HB0.out); have cf5 := blk3 (Ext.block hz2 HRC7.out)
    go_wp2_with fail
    rw [← HWC.out]; clear fR0 fR1 fR2 cR cf4 cf5; have cc := blk3 HRC.out; refine bodyPost_ret (v := .tuple #[.agg #[.int .i64 0, .int .i64 0, .int .i64 0], .bool false]) (by simp [results, Tryz.results15, go_sem, cc]) rfl ?_; rw [HE.out]; exact ⟨rfl, HXC.out⟩
   case true =>
    have HE : Hid (decRev b = (⟨x0, x1, x2⟩, true)) := Lib.hid (by rw [decRev_yes (by rw [HD.out]; simp only [revOf, hva, HCB.out]; rfl), HD.out]; rfl); have HRB := Lib.hid (Ext.block ((hz1.t hx7).t hz2) HB0.out); obtain ⟨wc, hwc, hrc⟩ := Rev3.set HRB.out (.int .i64 x0) (.int .i64 x1) (.int .i64 x2); have hxc : Ext w wc := by rw [hwc]; exact ext_set3 (((hx0.t hz1).t hx7).t hz2) (Nat.le_refl _) _ _ _
    have hsz : wc.heap.size = w2.heap.size := by rw [hwc]; simp
    have HWC := Lib.hid hwc; have HRC := Lib.hid hrc; have HXC := Lib.hid hxc; clear hwc hrc hxc; have cR := blk3 HRB.out; have fR0 := fr_of HRB.out 0; have fR1 := fr_of HRB.out 1; have fR2 := fr_of HRB.out 2
    try clear cf2
    try clear cf3
    have cf6 := blk3 (Ext.block ((hz1.t hx7).t hz2) HB0.out); have cf7 := blk3 (Ext.block hz2 HRC7.out)
    go_wp2_with fail
    rw [← HWC.out]; clear fR0 fR1 fR2 cR cf6 cf7; have cc := blk3 HRC.out; refine bodyPost_ret (v := .tuple #[.agg #[.int .i64 x0, .int .i64 x1, .int .i64 x2], .bool true]) (by simp [results, Tryz.results15, go_sem, cc]) rfl ?_; rw [HE.out]; exact ⟨rfl, HXC.out⟩
  ·
   have hcb2 : (c == (b.length : Int)) = false := by rw [beq_eq_false_iff_ne]; exact hcb
   have hcb3 : (c != (b.length : Int)) = true := by simp only [bne, hcb2]; rfl
   have HE : Hid (decRev b = (⟨0, 0, 0⟩, false)) := Lib.hid (decRev_no (by rw [HD.out]; simp only [hcb2, Bool.and_false, Bool.false_and])); clear hcb hcb2; have HRB := Lib.hid (Ext.block hz1 HB0.out); obtain ⟨wc, hwc, hrc⟩ := Rev3.set HRB.out (.int .i64 0) (.int .i64 0) (.int .i64 0); have hxc : Ext w wc := by rw [hwc]; exact ext_set3 (hx0.t hz1) (Nat.le_refl _) _ _ _
   have hsz : wc.heap.size = w1.heap.size := by rw [hwc]; simp
   have HWC := Lib.hid hwc; have HRC := Lib.hid hrc; have HXC := Lib.hid hxc; clear hwc hrc hxc; have cR := blk3 HRB.out; have fR0 := fr_of HRB.out 0; have fR1 := fr_of HRB.out 1; have fR2 := fr_of HRB.out 2; have cf8 := blk3 (Ext.block hz1 HB0.out)
   go_wp2_with fail
   rw [← HWC.out]; clear fR0 fR1 fR2 cR cf8; have cc := blk3 HRC.out; refine bodyPost_ret (v := .tuple #[.agg #[.int .i64 0, .int .i64 0, .int .i64 0], .bool false]) (by simp [results, Tryz.results15, go_sem, cc]) rfl ?_; rw [HE.out]; exact ⟨rfl, HXC.out⟩
set_option maxRecDepth 100000 in
set_option maxHeartbeats 3000000 in
theorem s_DecodeRevocation (b : List Int) (v : Value) (w : World) (hv : RdS Rep.byte w v b) (hok : ∀ x ∈ b, U8 x) (hl : b.length ≤ 1048576) :
  Calls Tryz.prog 16 #[v] w fun e w' => e = .returned (.tuple #[.agg #[.int .i64 (decRev b).1.asn, .int .i64 (decRev b).1.iface, .int .i64 (decRev b).1.till], .bool (decRev b).2]) ∧ Ext w w' := by
 obtain ⟨o, cap, rfl, hsm⟩ := hv.shape; have hx0 : Ext w (w.alloc (.cells #[.int .i64 0, .int .i64 0, .int .i64 0] 30)) := (Ext.refl _).alloc _; have HB0 := Lib.hid (blk_new w (.cells #[.int .i64 0, .int .i64 0, .int .i64 0] 30))
 go_enter Tryz.func16, Tryz.ntmps16
 have hlen := fun h => decInts_len (b := b) (a := 0) (n := 3) h
 obtain ⟨d, hd⟩ : ∃ d, decInts b 0 3 = d := ⟨_, rfl⟩
 have con := fun (w1 : World) hv1 => s_DecodeInts b (.slice o b.length cap) 0 3 w1 hv1 hok hl
 rw [hd] at con hlen; obtain ⟨l, c, ok⟩ := d; have HD := Lib.hid hd; clear hd; have CON := Lib.hid con; clear con; have HLEN := Lib.hid hlen; clear hlen
 go_wp2_with fail
 refine (CON.out _ (hv.ext hx0)).mono ?_; rintro e w1 ⟨u, rfl, hown, hz1⟩
 cases ok
 case false =>
  have HE : Hid (decRev b = (⟨0, 0, 0⟩, false)) := Lib.hid (decRev_no (by rw [HD.out]; rfl)); have HRB := Lib.hid (Ext.block hz1 HB0.out); obtain ⟨wc, hwc, hrc⟩ := Rev3.set HRB.out (.int .i64 0) (.int .i64 0) (.int .i64 0); have hxc : Ext w wc := by rw [hwc]; exact ext_set3 (hx0.t hz1) (Nat.le_refl _) _ _ _
  have hsz : wc.heap.size = w1.heap.size := by rw [hwc]; simp
  have HWC := Lib.hid hwc; have HRC := Lib.hid hrc; have HXC := Lib.hid hxc; clear hwc hrc hxc; have cR := blk3 HRB.out; have fR0 := fr_of HRB.out 0; have fR1 := fr_of HRB.out 1; have fR2 := fr_of HRB.out 2; have cf1 := blk3 (Ext.block hz1 HB0.out)
  go_wp2_with fail
  rw [← HWC.out]; clear fR0 fR1 fR2 cR cf1; have cc := blk3 HRC.out; refine bodyPost_ret (v := .tuple #[.agg #[.int .i64 0, .int .i64 0, .int .i64 0], .bool false]) (by simp [results, Tryz.results16, go_sem, cc]) rfl ?_; rw [HE.out]; exact ⟨rfl, HXC.out⟩
 case true =>
  obtain ⟨x0, x1, x2, rfl⟩ := three (HLEN.out rfl)
  by_cases hcb : c = b.length
  ·
   have hcb2 : (c == (b.length : Int)) = true := by rw [beq_iff_eq]; exact hcb
   have hcb3 : (c != (b.length : Int)) = false := by simp only [bne, hcb2]; rfl
   have HCB := Lib.hid hcb2; clear hcb hcb2; obtain ⟨g, cg, hve, _, _⟩ := hown.some_shape (by simp); subst hve; have hi0 := ints_own_at hown 0 (by simp); have hi1 := ints_own_at hown 1 (by simp); have hi2 := ints_own_at hown 2 (by simp); simp only [List.getElem_cons_zero, List.getElem_cons_succ] at hi0 hi1 hi2; have HOWN := Lib.hid hown; clear hown
   go_wp2_with fail
   refine planStep (.blk [0, 1, 2, 3, 4, 5, 6, 7, 8, 9] (.one 10 (.one 11 .done))) [11] (by kernel_rfl) (by kernel_rfl) ?_; refine blkStep (fun K HK => ?_); simp only [PK]
   go_wp2_with fail
   refine HK.out _ _ ?_; clear HK K hi0 hi1 hi2; refine oneStep (fun K HK => ?_); simp only [PK]
   go_wp2_with fail
   refine HK.out _ _ ((Ext.refl _).alloc _) ?_; clear HK K; have hba := blk_new w1.drew (.cells #[.int .i64 0, .int .i64 0, .int .i64 0] 30); have ca := blk3 hba; have fa0 := fr_of hba 0; have fa1 := fr_of hba 1; have fa2 := fr_of hba 2; clear hba; refine badStep (by kernel_rfl) (fun K HK => ?_); simp only [PK]
   go_wp2_with fail
   refine HK.out _ _ ?_; clear HK K; refine doneStep (by kernel_rfl) ?_; clear ca fa0 fa1 fa2
   obtain ⟨wc7, hwc7⟩ : ∃ wA : World, wA = (w1.alloc (.cells #[.int .i64 x0, .int .i64 x1, .int .i64 x2] 30)).drew := ⟨_, rfl⟩
   have hx7 : Ext w1 wc7 := by rw [hwc7]; exact ((Ext.refl _).alloc _).drew
   have HRC7 : Hid (wc7.heap[w1.heap.size]? = some (.cells #[.int .i64 x0, .int .i64 x1, .int .i64 x2] 30)) := Lib.hid (by rw [hwc7]; exact blk_new w1 _); rw [← hwc7]; clear hwc7; have cf2 := blk3 (Ext.block (hz1.t hx7) HB0.out); have cf3 := blk3 HRC7.out
   go_wp2_with fail
   refine (s_ValidRevocation ⟨x0, x1, x2⟩ _).mono ?_; rintro e w2 ⟨rfl, hz2⟩
   cases hva : validRev ⟨x0, x1, x2⟩
   case false =>
    have HE : Hid (decRev b = (⟨0, 0, 0⟩, false)) := Lib.hid (decRev_no (by rw [HD.out]; simp only [revOf, hva, Bool.and_false])); have HRB := Lib.hid (Ext.block ((hz1.t hx7).t hz2) HB0.out); obtain ⟨wc, hwc, hrc⟩ := Rev3.set HRB.out (.int .i64 0) (.int .i64 0) (.int .i64 0); have hxc : Ext w wc := by rw [hwc]; exact ext_set3 (((hx0.t hz1).t hx7).t hz2) (Nat.le_refl _) _ _ _
    have hsz : wc.heap.size = w2.heap.size := by rw [hwc]; simp
    have HWC := Lib.hid hwc; have HRC := Lib.hid hrc; have HXC := Lib.hid hxc; clear hwc hrc hxc; have cR := blk3 HRB.out; have fR0 := fr_of HRB.out 0; have fR1 := fr_of HRB.out 1; have fR2 := fr_of HRB.out 2
    try clear cf2
    try clear cf3
    have cf4 := blk3 (Ext.block ((hz1.t hx7).t hz2) HB0.out); have cf5 := blk3 (Ext.block hz2 HRC7.out)
    go_wp2_with fail
    rw [← HWC.out]; clear fR0 fR1 fR2 cR cf4 cf5; have cc := blk3 HRC.out; refine bodyPost_ret (v := .tuple #[.agg #[.int .i64 0, .int .i64 0, .int .i64 0], .bool false]) (by simp [results, Tryz.results16, go_sem, cc]) rfl ?_; rw [HE.out]; exact ⟨rfl, HXC.out⟩
   case true =>
    have HE : Hid (decRev b = (⟨x0, x1, x2⟩, true)) := Lib.hid (by rw [decRev_yes (by rw [HD.out]; simp only [revOf, hva, HCB.out]; rfl), HD.out]; rfl); have HRB := Lib.hid (Ext.block ((hz1.t hx7).t hz2) HB0.out); obtain ⟨wc, hwc, hrc⟩ := Rev3.set HRB.out (.int .i64 x0) (.int .i64 x1) (.int .i64 x2); have hxc : Ext w wc := by rw [hwc]; exact ext_set3 (((hx0.t hz1).t hx7).t hz2) (Nat.le_refl _) _ _ _
    have hsz : wc.heap.size = w2.heap.size := by rw [hwc]; simp
    have HWC := Lib.hid hwc; have HRC := Lib.hid hrc; have HXC := Lib.hid hxc; clear hwc hrc hxc; have cR := blk3 HRB.out; have fR0 := fr_of HRB.out 0; have fR1 := fr_of HRB.out 1; have fR2 := fr_of HRB.out 2
    try clear cf2
    try clear cf3
    have cf6 := blk3 (Ext.block ((hz1.t hx7).t hz2) HB0.out); have cf7 := blk3 (Ext.block hz2 HRC7.out)
    go_wp2_with fail
    rw [← HWC.out]; clear fR0 fR1 fR2 cR cf6 cf7; have cc := blk3 HRC.out; refine bodyPost_ret (v := .tuple #[.agg #[.int .i64 x0, .int .i64 x1, .int .i64 x2], .bool true]) (by simp [results, Tryz.results16, go_sem, cc]) rfl ?_; rw [HE.out]; exact ⟨rfl, HXC.out⟩
  ·
   have hcb2 : (c == (b.length : Int)) = false := by rw [beq_eq_false_iff_ne]; exact hcb
   have hcb3 : (c != (b.length : Int)) = true := by simp only [bne, hcb2]; rfl
   have HE : Hid (decRev b = (⟨0, 0, 0⟩, false)) := Lib.hid (decRev_no (by rw [HD.out]; simp only [hcb2, Bool.and_false, Bool.false_and])); clear hcb hcb2; have HRB := Lib.hid (Ext.block hz1 HB0.out); obtain ⟨wc, hwc, hrc⟩ := Rev3.set HRB.out (.int .i64 0) (.int .i64 0) (.int .i64 0); have hxc : Ext w wc := by rw [hwc]; exact ext_set3 (hx0.t hz1) (Nat.le_refl _) _ _ _
   have hsz : wc.heap.size = w1.heap.size := by rw [hwc]; simp
   have HWC := Lib.hid hwc; have HRC := Lib.hid hrc; have HXC := Lib.hid hxc; clear hwc hrc hxc; have cR := blk3 HRB.out; have fR0 := fr_of HRB.out 0; have fR1 := fr_of HRB.out 1; have fR2 := fr_of HRB.out 2; have cf8 := blk3 (Ext.block hz1 HB0.out)
   go_wp2_with fail
   rw [← HWC.out]; clear fR0 fR1 fR2 cR cf8; have cc := blk3 HRC.out; refine bodyPost_ret (v := .tuple #[.agg #[.int .i64 0, .int .i64 0, .int .i64 0], .bool false]) (by simp [results, Tryz.results16, go_sem, cc]) rfl ?_; rw [HE.out]; exact ⟨rfl, HXC.out⟩
end
section
open Go.ChangeShapes Go.WideShapes Go.ChangeAt Go.RowKit Go.Deep
def otherResv (x y : Resv) : Bool := (y.id != x.id) || !(resvAt y x.asn x.iface)
set_option maxHeartbeats 400000 in
theorem i_copyRevocations (l : List Revc) (v : Value) (w : World) (hv : RdS Revc.rep w v l) (hl : l.length ≤ 1099511627776) :
  Calls Tryz.prog 94 #[v] w fun e w' => ∃ v', e = .returned v' ∧ OwnF Revc.f 3 w.heap.size 30 w' v' l ∧ Ext w w' := by
 obtain ⟨E⟩ := elemRevc
 go_enter Tryz.func94, Tryz.ntmps94
 go_wp2_with (at_builtin; refine appS E Revc.flen Revc.one rfl _ _ rfl l rfl (OwnF.empty Revc.f 3 w.heap.size _ w (Nat.le_refl _)) rfl (hv.ext ((Ext.refl _).alloc _)) (by first | omega | (simp; omega)) (by first | (unfold maxLen; omega) | (simp [maxLen]; omega)) (by simp) ?_)
 intro v' w' ho' hg'; have hx' : Ext w w' := ((Ext.refl w).alloc _).app hg' (OwnF.empty Revc.f 3 w.heap.size 30 w (Nat.le_refl _)) (Nat.le_refl _)
 try rw [List.nil_append] at ho'
 clear hg'
 go_wp2
 go_ret
 exact ⟨_, rfl, ho', hx'⟩
end
end Go.Proofs.YtcpfmhgfaliemaaGreat
