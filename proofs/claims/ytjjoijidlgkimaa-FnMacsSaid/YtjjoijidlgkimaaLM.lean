/- The walk of the law over MACs: a MAC depends on each of its integers and on its key. No condition. -/
import Derived.Test.YtjjoijidlgkimaaW03c
import Derived.Test.YtjjoijidlgkimaaW03d
namespace Go.Proofs.Ytjjoijidlgkimaa
open Go.ChangeShapes Go.WideShapes Go.ChangeAt Go.RowKit Go.Deep

set_option maxRecDepth 100000 in
set_option maxHeartbeats 4000000 in
theorem l_FnMacs (code : List Int) (cv : Value) (w : World) (hr : RdS Rep.byte w cv code) (hu : ∀ x ∈ code, U8 x) :
    Calls Try.prog 4 #[cv] w fun e w' => e = .returned (.bool true) ∧ Ext w w' := by
  obtain ⟨E⟩ := elemInt
  obtain ⟨co, cc, rfl, _⟩ := hr.shape
  by_cases hbig : 1048576 < code.length
  · have hb1 : decide (1048576 < code.length) = true := by simpa using hbig
    have HB1 := Lib.hid hb1; clear hb1
    go_enter Try.func4, Try.ntmps4
    go_wp2_with fail
    refine (l_big code _ _ hr).mono ?_
    rintro e _ ⟨rfl, rfl⟩
    rw [HB1.out]
    go_wp2_with fail
    go_ret
    exact ⟨rfl, Ext.refl _⟩
  have hb1 : decide (1048576 < code.length) = false := by simpa using hbig
  have hl : code.length ≤ 1048576 := by omega
  have HB1 := Lib.hid hb1; clear hb1 hbig
  go_enter Try.func4, Try.ntmps4
  go_wp2_with fail
  refine (l_big code _ _ hr).mono ?_
  rintro e _ ⟨rfl, rfl⟩
  rw [HB1.out]
  go_wp2_with fail
  refine (s_DrawComputeMAC code _ _ (hr.ext (Ext.refl _)) hu hl).mono ?_
  rintro e w1 ⟨k, v, l, rfl, hk0, hk1, hl0, hl1, hol, hz1⟩
  obtain ⟨lo, lc, rfl, _⟩ := (ints_rep hol).shape
  go_wp2_with fail
  refine (s_DrawDigest code _ _ (hr.ext hz1) hu hl).mono ?_
  rintro e w2 ⟨vd, d, rfl, hd0, hd1, hod, hz2⟩
  obtain ⟨dO, dc, rfl, _⟩ := (ints_rep hod).shape
  go_wp2_with fail
  refine (s_DrawValidKey code _ _ (hr.ext (hz1.trans hz2)) hu hl).mono ?_
  rintro e w3 ⟨key, rfl, hy0, hy1, hz3⟩
  go_wp2_with fail
  refine (s_DrawEqualInts code _ _ (hr.ext ((hz1.trans hz2).trans hz3)) hu hl).mono ?_
  rintro e w4 ⟨va, vb, a, b, rfl, hra, hrb, hz4⟩
  obtain ⟨ao, ac, rfl, _⟩ := hra.shape
  obtain ⟨bo, bc, rfl, _⟩ := hrb.shape
  have hm0 := (digest_res ([k] ++ l ++ [k])).1
  have hm1 := (digest_res ([k] ++ l ++ [k])).2
  have hmx : macOf k l = digest ([k] ++ l ++ [k]) := rfl
  rw [← hmx] at hm0 hm1
  clear hmx
  have he1 : (macOf k l != macOf k l) = false := by simp
  have he2 : (digest d != digest d) = false := by simp
  have he3 : (inR key 1 2147483646 != inR key 1 2147483646) = false := by simp
  have he4 : (decide (a = b) != decide (a = b)) = false := by simp
  go_wp2_with fail
  refine (i_ComputeMAC k l _ _ ((ints_rep hol).ext ((hz2.trans hz3).trans hz4)) (by omega)).mono ?_
  rintro e w5 ⟨rfl, hz5⟩
  go_wp2_with fail
  refine (s_ComputeMAC k l _ _ ((ints_rep hol).ext (((hz2.trans hz3).trans hz4).trans hz5)) (by omega)).mono ?_
  rintro e w6 ⟨rfl, hz6⟩
  go_wp2_with fail
  refine (i_Digest d _ _ ((ints_rep hod).ext (((hz3.trans hz4).trans hz5).trans hz6))).mono ?_
  rintro e _ ⟨rfl, rfl⟩
  go_wp2_with fail
  refine (s_Digest d _ _ ((ints_rep hod).ext (((hz3.trans hz4).trans hz5).trans hz6))).mono ?_
  rintro e _ ⟨rfl, rfl⟩
  go_wp2_with fail
  refine (i_ValidKey key _).mono ?_
  rintro e _ ⟨rfl, rfl⟩
  go_wp2_with fail
  refine (s_ValidKey key _).mono ?_
  rintro e _ ⟨rfl, rfl⟩
  go_wp2_with fail
  refine (i_EqualInts a _ b _ _ (hra.ext (hz5.trans hz6)) (hrb.ext (hz5.trans hz6))).mono ?_
  rintro e w11 ⟨rfl, hz11⟩
  go_wp2_with fail
  refine (l_sameInts a _ b _ _ (hra.ext ((hz5.trans hz6).trans hz11)) (hrb.ext ((hz5.trans hz6).trans hz11))).mono ?_
  rintro e w12 ⟨rfl, hz12⟩
  have hl2 : l.length ≤ 4 := by omega
  by_cases hl3 : ¬ 0 < l.length
  · have hl4 : ((l.length : Int) == 0) = true := by rw [beq_iff_eq]; omega
    go_wp2_with fail
    go_ret
    exact ⟨rfl, (((((((hz1.trans hz2).trans hz3).trans hz4).trans hz5).trans hz6).trans hz11).trans hz12)⟩
  have hl3 : 0 < l.length := by omega
  have hl4 : ((l.length : Int) == 0) = false := by rw [beq_eq_false_iff_ne]; omega
  go_upto_region 12 with (fail)
  go_cut [10] (fun v9 wx => ∃ kk : Nat, kk < l.length ∧ v9 = .int .i64 kk ∧ w12 = wx)
  case first =>
    go_wp2_with fail
    refine (l_at code _ 3 _ (hr.ext (((((((hz1.trans hz2).trans hz3).trans hz4).trans hz5).trans hz6).trans hz11).trans hz12)) hu (by omega) (by omega) hl).mono ?_
    rintro e _ ⟨r, rfl, hr0, hr1, rfl⟩
    have hm2 := Int.emod_nonneg r (show (l.length : Int) ≠ 0 by omega)
    have hm3 := Int.emod_lt_of_pos r (show (0 : Int) < (l.length : Int) by omega)
    have HM := Lib.hid (And.intro hm2 hm3); clear hm2 hm3
    go_wp2_with fail
    go_meet
    exact ⟨(r % ((l.length : Int))).toNat, by have h := HM.out; omega, by rw [Int.toNat_of_nonneg HM.out.1], rfl⟩
  case rest =>
  obtain ⟨kk, hkk, rfl, rfl⟩ := hcut
  go_wp2_with (at_builtin; refine appE (g := w12.heap.size) E intFlen intOne rfl _ _ rfl l rfl (OwnF.empty intF 1 w12.heap.size 3 w12 (Nat.le_refl _)) rfl (((ints_rep hol).ext ((((((hz2.trans hz3).trans hz4).trans hz5).trans hz6).trans hz11).trans hz12)).ext ((Ext.refl _).alloc _)) (by omega) (by unfold maxLen; omega) (by simp) ?_)
  intro vm wm om hym
  have hzm := ((Ext.refl w12).alloc (.cells #[] 3)).trans hym
  clear hym
  obtain ⟨gm, cm, hve, _, _⟩ := om.some_shape hl3
  subst hve
  have hcm := ints_own_at om kk hkk
  have hfm := om.free kk
  have HOM := Lib.hid om; clear om
  have hw1 : 0 ≤ l[kk] % 2147483647 := Int.emod_nonneg _ (by decide)
  have hw2 : l[kk] % 2147483647 < 2147483647 := Int.emod_lt_of_pos _ (by decide)
  obtain ⟨hb0, hb1⟩ := hl1 l[kk] (List.getElem_mem _)
  have HNE := Lib.hid (mac_set k l kk hkk (l[kk] % 2147483647 + 1) (by omega))
  go_wp2_with fail
  refine (i_Mod l[kk] _).mono ?_
  rintro e _ ⟨rfl, rfl⟩
  go_upto_region 15 with (fail)
  have hput := OwnF.put1 intFlen HOM.out kk hkk 0 (by decide) (.int .i64 (l[kk] % 2147483647 + 1)) (l[kk] % 2147483647 + 1) rfl
  rw [Nat.mul_one, Nat.add_zero] at hput
  have hxs := Ext.setCell ((((((((hz1.trans hz2).trans hz3).trans hz4).trans hz5).trans hz6).trans hz11).trans hz12).trans hzm) (p := ⟨gm, kk, none⟩) (by have h1 := (HOM.out.block gm rfl).1; have h2 := (((((((hz1.trans hz2).trans hz3).trans hz4).trans hz5).trans hz6).trans hz11).trans hz12).size; exact Nat.le_trans h2 h1) (.int .i64 (l[kk] % 2147483647 + 1))
  obtain ⟨hpo, _⟩ := hput
  generalize wm.setCell ⟨gm, kk, none⟩ (.int .i64 (l[kk] % 2147483647 + 1)) = ws at *
  generalize hmm : l.set kk (l[kk] % 2147483647 + 1) = m at *
  have hlm : m.length = l.length := by rw [← hmm]; simp
  have HLM := Lib.hid hlm; clear hlm hmm hcm hfm
  have hrm := ints_rep hpo
  go_wp2_with fail
  refine (i_ComputeMAC k m _ _ hrm (by rw [HLM.out]; omega)).mono ?_
  rintro e w99 ⟨rfl, hz99⟩
  have hne : (macOf k m != macOf k l) = true := by rw [bne_iff_ne]; exact HNE.out
  go_wp2_with fail
  go_ret
  exact ⟨rfl, hxs.trans hz99⟩

end Go.Proofs.Ytjjoijidlgkimaa
