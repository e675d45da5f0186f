/- Draws of numbers: no more is said of them than their bounds. No condition but the bounds that each theorem names. -/
import Derived.Test.YtjjoijidlgkimaaW01d
import Derived.Test.YtjjoijidlgkimaaAppE
namespace Go.Proofs.Ytjjoijidlgkimaa
open Go.ChangeShapes Go.WideShapes Go.ChangeAt Go.RowKit Go.Deep

set_option maxRecDepth 100000 in
set_option maxHeartbeats 2000000 in
theorem s_l3Word (g : Nat)  (cv : Value) (cd : List Int) (w : World) (hc : Cur g cv cd w) :
    Calls Try.prog 67 #[.pointer (some ⟨g, 0, none⟩)] w fun e w' => ∃ r : Int, e = .returned (.int .i64 r) ∧ -1 ≤ r ∧ r ≤ 2147483648 ∧ Cur g cv cd w' ∧ Chg (at1 g) w w' := by
  go_enter Try.func67, Try.ntmps67
  go_wp2_with fail
  refine (s_l1Once g (10) _ _ _ hc).mono ?_
  rintro e w1 ⟨b, rfl, hc1, hz1⟩
  cases b
  case true =>
    go_wp2_with fail
    refine (s_l1Int g [-1, 2147483647, 2147483648] _ _ _ hc1 (by decide) (by decide)).mono ?_
    rintro e w2 ⟨r, rfl, hmr, hc2, hz2⟩
    have hbr : -1 ≤ r ∧ r ≤ 2147483648 := by simp at hmr; omega
    obtain ⟨hr0, hr1⟩ := hbr
    clear hmr
    go_wp2_with fail
    go_ret
    exact ⟨r, rfl, by omega, by omega, hc2, (hz1.trans hz2)⟩
  case false =>
    go_wp2_with fail
    refine (s_l1Once g (4) _ _ _ hc1).mono ?_
    rintro e w3 ⟨b2, rfl, hc3, hz3⟩
    cases b2
    case true =>
      go_wp2_with fail
      refine (s_l1Int g [0, 1, 2147483646] _ _ _ hc3 (by decide) (by decide)).mono ?_
      rintro e w4 ⟨r, rfl, hmr, hc4, hz4⟩
      have hbr : 0 ≤ r ∧ r ≤ 2147483646 := by simp at hmr; omega
      obtain ⟨hr0, hr1⟩ := hbr
      clear hmr
      go_wp2_with fail
      go_ret
      exact ⟨r, rfl, by omega, by omega, hc4, ((hz1.trans hz3).trans hz4)⟩
    case false =>
      go_wp2_with fail
      refine (s_l1Below g (1000000) _ _ _ hc3).mono ?_
      rintro e w5 ⟨x, rfl, hx0, hx1, hc5, hz5⟩
      have hx2 : x < 1000000 := by omega
      clear hx1
      go_wp2_with fail
      refine (s_l1Below g (2000) _ _ _ hc5).mono ?_
      rintro e w6 ⟨y, rfl, hy0, hy1, hc6, hz6⟩
      have hy2 : y < 2000 := by omega
      clear hy1
      have hp0 : 0 ≤ x * y := Int.mul_nonneg hx0 hy0
      have hp1 : x * y ≤ 999999 * 1999 := Int.mul_le_mul (by omega) (by omega) hy0 (by decide)
      go_wp2_with fail
      go_ret
      exact ⟨_, rfl, by omega, by omega, hc6, (((hz1.trans hz3).trans hz5).trans hz6)⟩

set_option maxRecDepth 100000 in
set_option maxHeartbeats 2000000 in
theorem s_l3Words (g : Nat)  (cv : Value) (cd : List Int) (w : World) (hc : Cur g cv cd w) :
    Calls Try.prog 68 #[.pointer (some ⟨g, 0, none⟩)] w fun e w' => ∃ (v : Value) (l : List Int), e = .returned v ∧ l.length + 1 ≤ 5 ∧ (∀ x ∈ l, -1 ≤ x ∧ x ≤ 2147483648) ∧ OwnF intF 1 w.heap.size 3 w' v l ∧ Cur g cv cd w' ∧ Chg (at1 g) w w' := by
  obtain ⟨E⟩ := elemInt
  have hgw := hc.lt
  go_enter Try.func68, Try.ntmps68
  go_wp2_with fail
  have hca := hc.ext ((Ext.refl w).alloc (.cells #[] 3))
  have hxa : Chg (at1 g) w (w.alloc (.cells #[] 3)) := Chg.ofExt ((Ext.refl w).alloc _)
  refine (s_l1Below g (5) _ _ _ hca).mono ?_
  rintro e w1 ⟨x, rfl, hx0, hx1, hc1, hz1⟩
  have hx2 : x < 5 := by omega
  clear hx1
  obtain ⟨m, rfl⟩ := Int.eq_ofNat_of_zero_le hx0
  go_wp2_with fail
  go_loopg [3, 4] m (fun gk out i wr => ∃ (k : Nat) (l : List Int), gk = k ∧ i = .int .i64 k ∧ (l.length : Int) + k + 1 ≤ 5 ∧ Hid (∀ x ∈ l, -1 ≤ x ∧ x ≤ 2147483648) ∧ OwnF intF 1 w.heap.size 3 wr out l ∧ Cur g cv cd wr ∧ Chg (at1 g) w wr)
  case atStart => exact ⟨m, [], rfl, rfl, by simp; omega, Lib.hid (fun x h => absurd h (by simp)), (OwnF.empty intF 1 w.heap.size 3 w (Nat.le_refl _)).at1 hz1 hgw, hc1, (hxa.trans hz1)⟩
  case round =>
    obtain ⟨k, l, hgk, rfl, hlk, HL, hown, hcr, hxr⟩ := hrel
    have HGK := Lib.hid hgk; clear hgk hxa hca hc1 hz1
    by_cases hk0 : 0 < k
    · have hk1 : (0 : Int) < k := by omega
      go_wp2_with fail
      refine (s_l3Word g  _ _ _ hcr).mono ?_
      rintro e w2 ⟨y, rfl, hy0, hy1, hc2, hz2⟩
      have ho1 := hown.at1 hz2 hgw
      go_wp2_with (at_builtin; refine app1 E intFlen intOne rfl _ _ rfl y rfl (OwnF.ext ho1 ((Ext.refl _).alloc _)) rfl (by exact blk_list (intF y) (blk_new w2 _)) (by omega) (by unfold maxLen; omega) (by have h1 := (hxr.trans hz2).size; simp; omega) ?_)
      intro v' w' ho' hg'
      have hx' := Chg.app ((hxr.trans hz2).ext ((Ext.refl _).alloc _)) hg' ho1 (Nat.le_refl _)
      have hc' := Cur.app hc (hc2.ext ((Ext.refl _).alloc _)) hg' ho1 (Nat.le_refl _) ((hxr.trans hz2).ext ((Ext.refl _).alloc _))
      clear hg'
      go_wp2_with fail
      go_roundg (k - 1)
      case measure => have h1 := HGK.out; omega
      case rel =>
        refine ⟨k - 1, _, rfl, by rw [show ((k - 1 : Nat) : Int) = (k : Int) - 1 by omega], by simp; omega, Lib.hid (fun z hz => ?_), ho', hc', hx'⟩
        rcases List.mem_append.1 hz with h | h
        · exact HL.out z h
        · rw [List.mem_singleton.1 h]; exact ⟨hy0, hy1⟩
    · have hk1 : ¬ (0 : Int) < k := by omega
      go_wp2_with fail
      go_ret
      first | exact ⟨_, l, rfl, by omega, HL.out, hown, hcr, hxr⟩ | exact ⟨_, rfl, l, by omega, HL.out, hown, hcr, hxr⟩

set_option maxRecDepth 100000 in
set_option maxHeartbeats 2000000 in
theorem s_l1Odd (g : Nat)  (cv : Value) (cd : List Int) (w : World) (hc : Cur g cv cd w) :
    Calls Try.prog 163 #[.pointer (some ⟨g, 0, none⟩)] w fun e w' => ∃ r : Int, e = .returned (.int .i64 r) ∧ -9223372036854775808 ≤ r ∧ r ≤ 9223372036854775807 ∧ Cur g cv cd w' ∧ Chg (at1 g) w w' := by
  go_enter Try.func163, Try.ntmps163
  go_wp2_with fail
  refine (s_l1Int g [-1, 0, 1, 2, 255, 256, 65535, 2147483647, 2147483648, 4294967295, 4294967296, -2147483648, 9223372036854775807, -9223372036854775808] _ _ _ hc (by decide) (by decide)).mono ?_
  rintro e w1 ⟨r, rfl, hmr, hc1, hz1⟩
  have hbr : -9223372036854775808 ≤ r ∧ r ≤ 9223372036854775807 := by simp at hmr; omega
  obtain ⟨hr0, hr1⟩ := hbr
  clear hmr
  go_wp2_with fail
  go_ret
  exact ⟨r, rfl, hr0, hr1, hc1, hz1⟩

set_option maxRecDepth 100000 in
set_option maxHeartbeats 2000000 in
theorem s_l1Raw (g : Nat)  (cv : Value) (cd : List Int) (w : World) (hc : Cur g cv cd w) :
    Calls Try.prog 127 #[.pointer (some ⟨g, 0, none⟩)] w fun e w' => ∃ r : Int, e = .returned (.int .i64 r) ∧ -9223372036854775808 ≤ r ∧ r ≤ 9223372036854775807 ∧ Cur g cv cd w' ∧ Chg (at1 g) w w' := by
  go_enter Try.func127, Try.ntmps127
  go_wp2_with fail
  refine (s_l1Once g (2) _ _ _ hc).mono ?_
  rintro e w1 ⟨b, rfl, hc1, hz1⟩
  cases b
  case true =>
    go_wp2_with fail
    refine (s_l1Odd g  _ _ _ hc1).mono ?_
    rintro e w2 ⟨r, rfl, hr0, hr1, hc2, hz2⟩
    go_wp2_with fail
    go_ret
    exact ⟨r, rfl, hr0, hr1, hc2, (hz1.trans hz2)⟩
  case false =>
    go_wp2_with fail
    refine (s_l1Int g [-1, 1000000000000, 1000000000001] _ _ _ hc1 (by decide) (by decide)).mono ?_
    rintro e w3 ⟨r, rfl, hmr, hc3, hz3⟩
    have hbr : -1 ≤ r ∧ r ≤ 1000000000001 := by simp at hmr; omega
    obtain ⟨hr0, hr1⟩ := hbr
    clear hmr
    go_wp2_with fail
    go_ret
    exact ⟨r, rfl, by omega, by omega, hc3, (hz1.trans hz3)⟩

set_option maxRecDepth 100000 in
set_option maxHeartbeats 2000000 in
theorem s_l1Num (g : Nat)  (cv : Value) (cd : List Int) (w : World) (hc : Cur g cv cd w) :
    Calls Try.prog 128 #[.pointer (some ⟨g, 0, none⟩)] w fun e w' => ∃ r : Int, e = .returned (.int .i64 r) ∧ 0 ≤ r ∧ r ≤ 1000000000000 ∧ Cur g cv cd w' ∧ Chg (at1 g) w w' := by
  go_enter Try.func128, Try.ntmps128
  go_wp2_with fail
  refine (s_l1Below g (4) _ _ _ hc).mono ?_
  rintro e w1 ⟨q, rfl, hq0, hq1, hc1, hz1⟩
  have hq2 : q < 4 := by omega
  clear hq1
  by_cases q0 : q = 0
  · subst q0
    go_wp2_with fail
    refine (s_l1Below g (2000) _ _ _ hc1).mono ?_
    rintro e w2 ⟨r, rfl, hr0, hr1, hc2, hz2⟩
    have hr2 : r < 2000 := by omega
    clear hr1
    go_wp2_with fail
    go_ret
    exact ⟨r, rfl, hr0, by omega, hc2, (hz1.trans hz2)⟩
  · have q00 : (q == 0) = false := by rw [beq_eq_false_iff_ne]; exact q0
    by_cases q1 : q = 1
    · subst q1
      go_wp2_with fail
      refine (s_l1Int g [0, 1, 127, 128, 2147483646, 2147483647, 1000000000000] _ _ _ hc1 (by decide) (by decide)).mono ?_
      rintro e w3 ⟨r, rfl, hmr, hc3, hz3⟩
      have hbr : 0 ≤ r ∧ r ≤ 1000000000000 := by simp at hmr; omega
      obtain ⟨hr0, hr1⟩ := hbr
      clear hmr
      go_wp2_with fail
      go_ret
      exact ⟨r, rfl, hr0, hr1, hc3, (hz1.trans hz3)⟩
    · have q01 : (q == 1) = false := by rw [beq_eq_false_iff_ne]; exact q1
      by_cases q2 : q = 2
      · subst q2
        go_wp2_with fail
        refine (s_l1Below g (1000000) _ _ _ hc1).mono ?_
        rintro e w4 ⟨x, rfl, hx0, hx1, hc4, hz4⟩
        have hx2 : x < 1000000 := by omega
        clear hx1
        go_wp2_with fail
        refine (s_l1Below g (1000000) _ _ _ hc4).mono ?_
        rintro e w5 ⟨y, rfl, hy0, hy1, hc5, hz5⟩
        have hy2 : y < 1000000 := by omega
        clear hy1
        have hp0 : 0 ≤ x * y := Int.mul_nonneg hx0 hy0
        have hp1 : x * y ≤ 999999 * 999999 := Int.mul_le_mul (by omega) (by omega) hy0 (by decide)
        go_wp2_with fail
        go_ret
        exact ⟨_, rfl, by omega, by omega, hc5, ((hz1.trans hz4).trans hz5)⟩
      · have q02 : (q == 2) = false := by rw [beq_eq_false_iff_ne]; exact q2
        go_wp2_with fail
        refine (s_l1Below g (20) _ _ _ hc1).mono ?_
        rintro e w6 ⟨r, rfl, hr0, hr1, hc6, hz6⟩
        have hr2 : r < 20 := by omega
        clear hr1
        go_wp2_with fail
        go_ret
        exact ⟨r, rfl, hr0, by omega, hc6, (hz1.trans hz6)⟩

set_option maxRecDepth 100000 in
set_option maxHeartbeats 2000000 in
theorem s_l1One (g : Nat)  (cv : Value) (cd : List Int) (w : World) (hc : Cur g cv cd w) :
    Calls Try.prog 73 #[.pointer (some ⟨g, 0, none⟩)] w fun e w' => ∃ r : Int, e = .returned (.int .i64 r) ∧ -9223372036854775808 ≤ r ∧ r ≤ 9223372036854775807 ∧ Cur g cv cd w' ∧ Chg (at1 g) w w' := by
  go_enter Try.func73, Try.ntmps73
  go_wp2_with fail
  refine (s_l1Once g (6) _ _ _ hc).mono ?_
  rintro e w1 ⟨b, rfl, hc1, hz1⟩
  cases b
  case true =>
    go_wp2_with fail
    refine (s_l1Raw g  _ _ _ hc1).mono ?_
    rintro e w2 ⟨r, rfl, hr0, hr1, hc2, hz2⟩
    go_wp2_with fail
    go_ret
    exact ⟨r, rfl, hr0, hr1, hc2, (hz1.trans hz2)⟩
  case false =>
    go_wp2_with fail
    refine (s_l1Num g  _ _ _ hc1).mono ?_
    rintro e w3 ⟨r, rfl, hr0, hr1, hc3, hz3⟩
    go_wp2_with fail
    go_ret
    exact ⟨r, rfl, by omega, by omega, hc3, (hz1.trans hz3)⟩

set_option maxRecDepth 100000 in
set_option maxHeartbeats 2000000 in
theorem s_l2Ints (g : Nat) (n : Int) (cv : Value) (cd : List Int) (w : World) (hc : Cur g cv cd w) (hn0 : 0 ≤ n) (hn1 : n ≤ 1000) :
    Calls Try.prog 74 #[.pointer (some ⟨g, 0, none⟩), .int .i64 n] w fun e w' => ∃ (v : Value) (l : List Int), e = .returned v ∧ l.length + 1 ≤ (n + 1) ∧ (∀ x ∈ l, 0 ≤ x ∧ x ≤ 1000000000000) ∧ OwnF intF 1 w.heap.size 3 w' v l ∧ Cur g cv cd w' ∧ Chg (at1 g) w w' := by
  obtain ⟨E⟩ := elemInt
  have hgw := hc.lt
  go_enter Try.func74, Try.ntmps74
  go_wp2_with fail
  have hca := hc.ext ((Ext.refl w).alloc (.cells #[] 3))
  have hxa : Chg (at1 g) w (w.alloc (.cells #[] 3)) := Chg.ofExt ((Ext.refl w).alloc _)
  refine (s_l1Below g ((n + 1)) _ _ _ hca).mono ?_
  rintro e w1 ⟨x, rfl, hx0, hx1, hc1, hz1⟩
  have hx2 : x < (n + 1) := by omega
  clear hx1
  obtain ⟨m, rfl⟩ := Int.eq_ofNat_of_zero_le hx0
  go_wp2_with fail
  go_loopg [5, 6] m (fun gk out i wr => ∃ (k : Nat) (l : List Int), gk = k ∧ i = .int .i64 k ∧ (l.length : Int) + k + 1 ≤ (n + 1) ∧ Hid (∀ x ∈ l, 0 ≤ x ∧ x ≤ 1000000000000) ∧ OwnF intF 1 w.heap.size 3 wr out l ∧ Cur g cv cd wr ∧ Chg (at1 g) w wr)
  case atStart => exact ⟨m, [], rfl, rfl, by simp; omega, Lib.hid (fun x h => absurd h (by simp)), (OwnF.empty intF 1 w.heap.size 3 w (Nat.le_refl _)).at1 hz1 hgw, hc1, (hxa.trans hz1)⟩
  case round =>
    obtain ⟨k, l, hgk, rfl, hlk, HL, hown, hcr, hxr⟩ := hrel
    have HGK := Lib.hid hgk; clear hgk hxa hca hc1 hz1
    by_cases hk0 : 0 < k
    · have hk1 : (0 : Int) < k := by omega
      go_wp2_with fail
      refine (s_l1Num g  _ _ _ hcr).mono ?_
      rintro e w2 ⟨y, rfl, hy0, hy1, hc2, hz2⟩
      have ho1 := hown.at1 hz2 hgw
      go_wp2_with (at_builtin; refine app1 E intFlen intOne rfl _ _ rfl y rfl (OwnF.ext ho1 ((Ext.refl _).alloc _)) rfl (by exact blk_list (intF y) (blk_new w2 _)) (by omega) (by unfold maxLen; omega) (by have h1 := (hxr.trans hz2).size; simp; omega) ?_)
      intro v' w' ho' hg'
      have hx' := Chg.app ((hxr.trans hz2).ext ((Ext.refl _).alloc _)) hg' ho1 (Nat.le_refl _)
      have hc' := Cur.app hc (hc2.ext ((Ext.refl _).alloc _)) hg' ho1 (Nat.le_refl _) ((hxr.trans hz2).ext ((Ext.refl _).alloc _))
      clear hg'
      go_wp2_with fail
      go_roundg (k - 1)
      case measure => have h1 := HGK.out; omega
      case rel =>
        refine ⟨k - 1, _, rfl, by rw [show ((k - 1 : Nat) : Int) = (k : Int) - 1 by omega], by simp; omega, Lib.hid (fun z hz => ?_), ho', hc', hx'⟩
        rcases List.mem_append.1 hz with h | h
        · exact HL.out z h
        · rw [List.mem_singleton.1 h]; exact ⟨hy0, hy1⟩
    · have hk1 : ¬ (0 : Int) < k := by omega
      go_wp2_with fail
      go_ret
      first | exact ⟨_, l, rfl, by omega, HL.out, hown, hcr, hxr⟩ | exact ⟨_, rfl, l, by omega, HL.out, hown, hcr, hxr⟩

set_option maxRecDepth 100000 in
set_option maxHeartbeats 2000000 in
theorem s_DrawChainAdd (code : List Int) (cv : Value) (w : World) (hr : RdS Rep.byte w cv code) (hu : ∀ x ∈ code, U8 x) (hl : code.length ≤ 1048576) :
    Calls Try.prog 11 #[cv] w fun e w' => ∃ (b : Int) (v : Value) (l : List Int), e = .returned (.tuple #[.int .i64 b, v]) ∧ -1 ≤ b ∧ b ≤ 2147483648 ∧ l.length ≤ 4 ∧ (∀ x ∈ l, -1 ≤ x ∧ x ≤ 2147483648) ∧ OwnF intF 1 w.heap.size 3 w' v l ∧ Ext w w' := by
  go_enter Try.func11, Try.ntmps11
  go_wp2_with fail
  refine (s_l1New code _ _ hr hu hl).mono ?_
  rintro e w1 ⟨g, rfl, hgl, hc1, hn1⟩
  go_wp2_with fail
  refine (s_l3Word g  _ _ _ hc1).mono ?_
  rintro e w2 ⟨b, rfl, hb0, hb1, hc2, hz2⟩
  go_wp2_with fail
  refine (s_l3Words g  _ _ _ hc2).mono ?_
  rintro e w3 ⟨v, l, rfl, hl0, hl1, ho, hc3, hz3⟩
  have hs1 := hn1.size
  have hs2 := hz2.size
  have ho2 := ho.mono (show w.heap.size ≤ _ by omega)
  go_wp2_with fail
  go_ret2
  exact ⟨b, v, l, rfl, hb0, hb1, by omega, hl1, ho2, hn1.ofCur (hz2.trans hz3) hgl⟩

set_option maxRecDepth 100000 in
set_option maxHeartbeats 2000000 in
theorem s_DrawComputeMAC (code : List Int) (cv : Value) (w : World) (hr : RdS Rep.byte w cv code) (hu : ∀ x ∈ code, U8 x) (hl : code.length ≤ 1048576) :
    Calls Try.prog 18 #[cv] w fun e w' => ∃ (b : Int) (v : Value) (l : List Int), e = .returned (.tuple #[.int .i64 b, v]) ∧ -1 ≤ b ∧ b ≤ 2147483648 ∧ l.length ≤ 4 ∧ (∀ x ∈ l, -1 ≤ x ∧ x ≤ 2147483648) ∧ OwnF intF 1 w.heap.size 3 w' v l ∧ Ext w w' := by
  go_enter Try.func18, Try.ntmps18
  go_wp2_with fail
  refine (s_l1New code _ _ hr hu hl).mono ?_
  rintro e w1 ⟨g, rfl, hgl, hc1, hn1⟩
  go_wp2_with fail
  refine (s_l3Word g  _ _ _ hc1).mono ?_
  rintro e w2 ⟨b, rfl, hb0, hb1, hc2, hz2⟩
  go_wp2_with fail
  refine (s_l3Words g  _ _ _ hc2).mono ?_
  rintro e w3 ⟨v, l, rfl, hl0, hl1, ho, hc3, hz3⟩
  have hs1 := hn1.size
  have hs2 := hz2.size
  have ho2 := ho.mono (show w.heap.size ≤ _ by omega)
  go_wp2_with fail
  go_ret2
  exact ⟨b, v, l, rfl, hb0, hb1, by omega, hl1, ho2, hn1.ofCur (hz2.trans hz3) hgl⟩

set_option maxRecDepth 100000 in
set_option maxHeartbeats 2000000 in
theorem s_DrawChainSub (code : List Int) (cv : Value) (w : World) (hr : RdS Rep.byte w cv code) (hu : ∀ x ∈ code, U8 x) (hl : code.length ≤ 1048576) :
    Calls Try.prog 12 #[cv] w fun e w' => ∃ (b : Int) (v : Value) (l : List Int), e = .returned (.tuple #[.int .i64 b, v]) ∧ -1 ≤ b ∧ b ≤ 2147483648 ∧ l.length ≤ 4 ∧ (∀ x ∈ l, -1 ≤ x ∧ x ≤ 2147483648) ∧ OwnF intF 1 w.heap.size 3 w' v l ∧ Ext w w' := by
  go_enter Try.func12, Try.ntmps12
  go_wp2_with fail
  refine (s_DrawChainAdd code _ _ hr hu hl).mono ?_
  rintro e w1 ⟨b, v, l, rfl, r⟩
  go_wp2_with fail
  go_ret2
  exact ⟨b, v, l, rfl, r⟩

set_option maxRecDepth 100000 in
set_option maxHeartbeats 2000000 in
theorem s_DrawValidKey (code : List Int) (cv : Value) (w : World) (hr : RdS Rep.byte w cv code) (hu : ∀ x ∈ code, U8 x) (hl : code.length ≤ 1048576) :
    Calls Try.prog 20 #[cv] w fun e w' => ∃ r : Int, e = .returned (.int .i64 r) ∧ -1 ≤ r ∧ r ≤ 2147483648 ∧ Ext w w' := by
  go_enter Try.func20, Try.ntmps20
  go_wp2_with fail
  refine (s_l1New code _ _ hr hu hl).mono ?_
  rintro e w1 ⟨g, rfl, hgl, hc1, hn1⟩
  go_wp2_with fail
  refine (s_l3Word g  _ _ _ hc1).mono ?_
  rintro e w2 ⟨r, rfl, hr0, hr1, hc2, hz2⟩
  go_wp2_with fail
  go_ret
  exact ⟨r, rfl, hr0, hr1, hn1.ofCur hz2 hgl⟩

set_option maxRecDepth 100000 in
set_option maxHeartbeats 2000000 in
theorem s_DrawDigest (code : List Int) (cv : Value) (w : World) (hr : RdS Rep.byte w cv code) (hu : ∀ x ∈ code, U8 x) (hl : code.length ≤ 1048576) :
    Calls Try.prog 19 #[cv] w fun e w' => ∃ (v : Value) (l : List Int), e = .returned v ∧ l.length ≤ 5 ∧ (∀ x ∈ l, I64 x) ∧ OwnF intF 1 w.heap.size 3 w' v l ∧ Ext w w' := by
  obtain ⟨E⟩ := elemInt
  go_enter Try.func19, Try.ntmps19
  go_wp2_with fail
  refine (s_l1New code _ _ hr hu hl).mono ?_
  rintro e w1 ⟨g, rfl, hgl, hc1, hn1⟩
  go_wp2_with fail
  refine (s_l3Words g  _ _ _ hc1).mono ?_
  rintro e w2 ⟨v, l, rfl, hl0, hl1, ho, hc2, hz2⟩
  go_wp2_with fail
  refine (s_l1One g  _ _ _ hc2).mono ?_
  rintro e w3 ⟨y, rfl, hy0, hy1, hc3, hz3⟩
  have hgw := hc3.lt
  have hcl := hc1.lt
  have hs1 := hn1.size
  have ho1 := ho.at1 hz3 hcl
  go_wp2_with (at_builtin; refine app1 E intFlen intOne rfl _ _ rfl y rfl (OwnF.ext ho1 ((Ext.refl _).alloc _)) rfl (by exact blk_list (intF y) (blk_new w3 _)) (by omega) (by unfold maxLen; omega) (by have h1 := (hz2.trans hz3).size; simp; omega) ?_)
  intro v' w' ho' hg'
  have hx' := Chg.app ((hz2.trans hz3).ext ((Ext.refl _).alloc _)) hg' ho1 (Nat.le_refl _)
  clear hg'
  have ho2 := ho'.mono (show w.heap.size ≤ _ by omega)
  go_wp2_with fail
  go_ret
  refine ⟨_, _, rfl, by simp; omega, fun z hz => ?_, ho2, hn1.ofCur hx' hgl⟩
  rcases List.mem_append.1 hz with h | h
  · have h1 := hl1 z h; unfold I64; omega
  · rw [List.mem_singleton.1 h]; exact ⟨hy0, hy1⟩

set_option maxRecDepth 100000 in
set_option maxHeartbeats 4000000 in
theorem s_DrawEqualInts (code : List Int) (cv : Value) (w : World) (hr : RdS Rep.byte w cv code) (hu : ∀ x ∈ code, U8 x) (hl : code.length ≤ 1048576) :
    Calls Try.prog 21 #[cv] w fun e w' => ∃ (va vb : Value) (a b : List Int), e = .returned (.tuple #[va, vb]) ∧ RdS Rep.int w' va a ∧ RdS Rep.int w' vb b ∧ Ext w w' := by
  obtain ⟨E⟩ := elemInt
  go_enter Try.func21, Try.ntmps21
  go_wp2_with fail
  refine (s_l1New code _ _ hr hu hl).mono ?_
  rintro e w1 ⟨g, rfl, hgl, hc1, hn1⟩
  go_wp2_with fail
  refine (s_l2Ints g (4) _ _ _ hc1 (by decide) (by decide)).mono ?_
  rintro e w2 ⟨va, a, rfl, ha0, ha1, ho, hc2, hz2⟩
  have hal : a.length ≤ 4 := by omega
  obtain ⟨ao, ac, rfl, _⟩ := (ints_rep ho).shape
  have hab := fun k hk => (ho.block k hk).2
  have HAB := Lib.hid hab; clear hab
  have hcl := hc1.lt
  go_wp2_with (at_builtin; refine appE (g := w2.heap.size) E intFlen intOne rfl _ _ rfl a rfl (OwnF.empty intF 1 w2.heap.size 3 w2 (Nat.le_refl _)) rfl ((ints_rep ho).ext ((Ext.refl _).alloc _)) (by omega) (by unfold maxLen; omega) (by simp) ?_)
  intro vb w3 ob hy3
  have hz3 := ((Ext.refl w2).alloc (.cells #[] 3)).trans hy3
  have hrb := ints_rep ob
  obtain ⟨bo, bc, rfl, _⟩ := hrb.shape
  have hg2 : g < w2.heap.size := hc2.lt
  clear hy3
  go_wp2_with fail
  refine (s_l1Below g (3) _ _ _ (hc2.ext hz3)).mono ?_
  rintro e w4 ⟨q, rfl, hq0, hq1, hc4, hz4⟩
  have hq2 : q < 3 := by omega
  clear hq1
  by_cases q0 : q = 0
  · subst q0
    go_wp2_with fail
    refine (s_l2Ints g (4) _ _ _ hc4 (by decide) (by decide)).mono ?_
    rintro e w5 ⟨vd, d, rfl, hd0, hd1, hod, hc5, hz5⟩
    go_wp2_with fail
    go_ret2
    exact ⟨_, vd, a, d, rfl, (ints_rep (ho.at1 (((Chg.ofExt hz3).trans hz4).trans hz5) hcl)), ints_rep hod, hn1.ofCur (((hz2.trans (Chg.ofExt hz3)).trans hz4).trans hz5) hgl⟩
  · have q00 : (q == 0) = false := by rw [beq_eq_false_iff_ne]; exact q0
    by_cases q1 : q = 1
    · subst q1
      have hob := ob.at1 hz4 hg2
      have hoa := ho.at1 ((Chg.ofExt hz3).trans hz4) hcl
      have hsz3 := hz3.size
      have hsz4 := hz4.size
      go_wp2_with (at_builtin; refine app1 E intFlen intOne rfl _ _ rfl 1 rfl (OwnF.ext hob ((Ext.refl _).alloc _)) rfl (by exact blk_list (intF 1) (blk_new w4 _)) (by omega) (by unfold maxLen; omega) (by simp; omega) ?_)
      intro v' w' ho' hg'
      have hx' := Chg.app (((hz2.trans (Chg.ofExt hz3)).trans hz4).ext ((Ext.refl _).alloc _)) hg' hob (by have h1 := hz2.size; omega)
      have hoa' := (OwnF.ext hoa ((Ext.refl _).alloc _)).chg (Chg.ofGrown (S := fun k => (Value.slice bo a.length bc).ownBlock = some k) hg' (fun _ h => h)) (fun k hk e => by
        have h1 := HAB.out k hk
        have h2 := (hob.block k e).1
        omega)
      clear hg'
      go_wp2_with fail
      go_ret2
      exact ⟨_, _, a, a ++ [1], rfl, ints_rep hoa', ints_rep ho', hn1.ofCur hx' hgl⟩
    · have q01 : (q == 1) = false := by rw [beq_eq_false_iff_ne]; exact q1
      go_wp2_with fail
      go_ret2
      exact ⟨_, _, a, a, rfl, (ints_rep (ho.at1 ((Chg.ofExt hz3).trans hz4) hcl)), (ints_rep (ob.at1 hz4 hg2)), hn1.ofCur ((hz2.trans (Chg.ofExt hz3)).trans hz4) hgl⟩

end Go.Proofs.Ytjjoijidlgkimaa
