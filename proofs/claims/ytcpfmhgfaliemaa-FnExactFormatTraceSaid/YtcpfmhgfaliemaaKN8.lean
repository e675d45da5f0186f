/- What these laws need: FnExactFormatTrace: The data of the struct Hop (Hop), how a slice of it reads, and the contracts of the laws' helper functions over it. The data of path parts and paths, how they read, and the contracts of the laws' helper functions over them. The data of the struct Step (Step), how a slice of it reads, and the contracts of the laws' helper functions over it. The data of the struct AS (ASd), how a slice of it reads, and the contracts of the laws' helper functions over it. The data of the struct Link (Lnk), how a slice of it reads, and the contracts of the laws' helper functions over it. The data of the struct Topology, how it reads, and the contracts of the laws' helper functions over it. -/
import Derived.Test.YtcpfmhgfaliemaaKN4
namespace Go.Proofs.Ytcpfmhgfaliemaa
section
open Go.ChangeShapes Go.WideShapes Go.ChangeAt Go.RowKit Go.Deep
set_option maxHeartbeats 400000 in
theorem l_toHop (x : Hop) (w : World) :
    Calls Try.prog 150 #[.agg #[.int .i64 x.asn, .int .i64 x.ing, .int .i64 x.eg, .int .i64 x.exp, .int .i64 x.mac]] w fun e w' => e = .returned (.agg #[.int .i64 x.asn, .int .i64 x.ing, .int .i64 x.eg, .int .i64 x.exp, .int .i64 x.mac]) ∧ Ext w w' := by
  go_enter Try.func150, Try.ntmps150
  go_wp2
  exact bodyPost_ret (v := .agg #[.int .i64 x.asn, .int .i64 x.ing, .int .i64 x.eg, .int .i64 x.exp, .int .i64 x.mac]) (by simp [results, Try.results150, go_sem]) rfl ⟨rfl, by repeat (first | exact Ext.refl _ | apply Ext.alloc | (refine Ext.setCell ?_ (by simp) _))⟩
set_option maxHeartbeats 400000 in
theorem l_toHopS (l : List Hop) (v : Value) (w : World) (hv : RdS Hop.rep w v l) (hl : l.length ≤ 1048576) :
    Calls Try.prog 145 #[v] w fun e w' => ∃ v', e = .returned v' ∧ OwnF Hop.f 5 w.heap.size 108 w' v' l ∧ Ext w w' := by
  obtain ⟨o, cap, rfl, hsm⟩ := hv.shape
  obtain ⟨i0, hi, hz0, hz1, hz2⟩ := info_parts Try.infoHop
  have Hi := Lib.hid hi; clear hi
  go_enter Try.func145, Try.ntmps145
  go_wp2_with (with_reducible refine wpList_make_full _ rfl _ _ 58 rfl w.heap.size 108 i0 _ 5 Try.underlying58 Hi.out hz0 hz1 .i64 .i64 _ _ l.length rfl rfl rfl rfl ?_ ?_ ?_ ?_)
  · rw [hz2]; omega
  · unfold maxLen; omega
  · exact Nat.le_refl _
  intro w1 hown hg
  have hx1 : Ext w w1 := (Ext.refl w).grownNone hg
  have hown1 : OwnF Hop.f 5 w.heap.size 108 w1 (.slice (some ⟨w.heap.size, 0, none⟩) l.length l.length) (List.replicate l.length ⟨0, 0, 0, 0, 0⟩) := by
    have := madeCells_flat Hop.flen (by decide) ⟨0, 0, 0, 0, 0⟩ l.length
    unfold OwnF
    rw [← this, List.length_replicate]
    exact hown
  clear hown hg
  go_wp2
  go_loopw [4] (fun i wr => ∃ (k : Nat) (xs : List Hop), k ≤ l.length ∧ i = .int .i64 k ∧ xs.length = l.length ∧ OwnF Hop.f 5 w.heap.size 108 wr (.slice (some ⟨w.heap.size, 0, none⟩) l.length l.length) xs ∧ xs.take k = l.take k ∧ Ext w wr) (fun i _ => l.length - (intOf i).toNat)
  case atStart => exact ⟨0, _, Nat.zero_le _, rfl, by simp, hown1, rfl, hx1⟩
  case round =>
    obtain ⟨k, xs, hk, rfl, hxl, hown, htk, hx⟩ := hrel
    have Htk := Lib.hid htk; clear htk
    have Hxl := Lib.hid hxl; clear hxl
    by_cases hlt : k < l.length
    · obtain ⟨b, off, rfl, hcc⟩ := Hop.at (hv.ext hx) k hlt
      go_wp2_with fail
      refine (l_toHop l[k] _).mono ?_
      rintro e w2 ⟨rfl, h2⟩
      have hx2 := hx.trans h2
      have hown2 := hown.ext h2
      have hcs := Hop.own_at hown2 k (by rw [Hxl.out]; exact hlt)
      have f0 := hown2.free (k * 5)
      have f1 := hown2.free (k * 5 + 1)
      have f2 := hown2.free (k * 5 + 2)
      have f3 := hown2.free (k * 5 + 3)
      have f4 := hown2.free (k * 5 + 4)
      obtain ⟨ho3, hg3⟩ := Hop.own_set hown2 k (by rw [Hxl.out]; exact hlt) l[k]
      have hx3 := hx2.grown hg3 (fun _ e => by cases e; exact Nat.le_refl _)
      go_wp2_with fail
      go_roundw
      case rel => exact ⟨k + 1, _, by omega, by go_num, by simpa using Hxl.out, ho3, take_set_snoc Htk.out Hxl.out hlt, hx3⟩
      case measure => simp [intOf]; omega
    · go_wp2
      go_ret
      refine ⟨_, rfl, ?_, hx⟩
      obtain rfl : xs = l := by
        have := Htk.out
        rwa [List.take_of_length_le (by rw [Hxl.out]; omega), List.take_of_length_le (by omega)] at this
      exact hown
set_option maxHeartbeats 400000 in
theorem l_eqHop (x y : Hop) (w : World) :
    Calls Try.prog 151 #[.agg #[.int .i64 x.asn, .int .i64 x.ing, .int .i64 x.eg, .int .i64 x.exp, .int .i64 x.mac], .agg #[.int .i64 y.asn, .int .i64 y.ing, .int .i64 y.eg, .int .i64 y.exp, .int .i64 y.mac]] w fun e w' => e = .returned (.bool (decide (x = y))) ∧ Ext w w' := by
  rw [Hop.eq_iff]
  go_enter Try.func151, Try.ntmps151
  go_wp2
  all_goals
    go_ret
    refine ⟨ret_bool ?_, ((Ext.refl _).alloc _).alloc _⟩
    simp only [*, Bool.not_true, Bool.not_false, Bool.and_true, Bool.and_false, Bool.false_and]
set_option maxRecDepth 100000 in
set_option maxHeartbeats 400000 in
theorem l_eqHopS (a b : List Hop) (va vb : Value) (w : World) (ha : RdS Hop.rep w va a) (hb : RdS Hop.rep w vb b) :
    Calls Try.prog 146 #[va, vb] w fun e w' => e = .returned (.bool (decide (a = b))) ∧ Ext w w' := by
  obtain ⟨oa, ca, rfl, hsa⟩ := ha.shape
  obtain ⟨ob, cb, rfl, hsb⟩ := hb.shape
  by_cases hne : a.length = b.length
  · have Hne := Lib.hid hne
    have t1 : ((a.length : Int) != (b.length : Int)) = false := by simp [hne]
    clear hne
    go_enter Try.func146, Try.ntmps146
    go_wp2
    go_loopw [5] (fun i wr => ∃ (k : Nat), k ≤ a.length ∧ i = .int .i64 k ∧ a.take k = b.take k ∧ Ext w wr) (fun i _ => a.length - (intOf i).toNat)
    case atStart => exact ⟨0, Nat.zero_le _, rfl, rfl, Ext.refl _⟩
    case round =>
      obtain ⟨k, hk, rfl, htk, hx⟩ := hrel
      have Htk := Lib.hid htk; clear htk
      by_cases hlt : k < a.length
      · have hlb : k < b.length := by rw [← Hne.out]; exact hlt
        obtain ⟨b1, off1, rfl, hc1⟩ := Hop.at (ha.ext hx) k hlt
        obtain ⟨b2, off2, rfl, hc2⟩ := Hop.at (hb.ext hx) k hlb
        go_wp2
        go_still_tail 8, (by kernel_rfl)
        go_wp2_with fail
        refine (l_eqHop a[k] b[k] _).mono ?_
        rintro e w2 ⟨rfl, h2⟩
        have hx2 := hx.trans (Ext.trans (by repeat (first | exact Ext.refl _ | apply Ext.drew | apply Ext.drewN)) h2)
        by_cases heq : a[k] = b[k]
        · have t2 : decide (a[k] = b[k]) = true := by simp [heq]
          have Heq := Lib.hid heq; clear heq
          go_wp2_with fail
          go_roundw
          case rel => exact ⟨k + 1, by omega, by go_num, take_snoc2 Htk.out hlt hlb Heq.out, hx2⟩
          case measure => simp [intOf]; omega
        · have t2 : decide (a[k] = b[k]) = false := by simp [heq]
          have hab : decide (a = b) = false := by
            rw [decide_eq_false_iff_not]; rintro rfl; exact heq rfl
          have Hab := Lib.hid hab; clear hab
          clear heq
          go_wp2_with fail
          go_ret
          exact ⟨ret_bool Hab.out.symm, hx2⟩
      · have hab : decide (a = b) = true := by
          have := Htk.out
          rw [List.take_of_length_le (by omega), List.take_of_length_le (by rw [← Hne.out]; omega)] at this
          simp [this]
        have Hab := Lib.hid hab; clear hab
        go_wp2
        go_ret
        exact ⟨ret_bool Hab.out.symm, hx⟩
  · have t1 : ((a.length : Int) != (b.length : Int)) = true := by simp [bne_iff_ne]; omega
    have hab : decide (a = b) = false := by
      rw [decide_eq_false_iff_not]; rintro rfl; exact hne rfl
    have Hab := Lib.hid hab; clear hab
    clear hne
    go_enter Try.func146, Try.ntmps146
    go_wp2
    go_ret
    exact ⟨ret_bool Hab.out.symm, Ext.refl _⟩
set_option maxHeartbeats 400000 in
theorem l_szHopS (l : List Hop) (v : Value) (left : Int) (w : World) (hv : RdS Hop.rep w v l) (h0 : 0 ≤ left) (h1 : left ≤ 1048576) :
    Calls Try.prog 144 #[v, .int .i64 left] w fun e w' => e = .returned (.int .i64 (szL left l.length)) ∧ Ext w w' := by
  obtain ⟨o, cap, rfl, hsm⟩ := hv.shape
  by_cases hlt : left - l.length < 0
  · have hz : szL left l.length = -1 := by unfold szL; rw [if_pos hlt]
    rw [hz]
    go_enter Try.func144, Try.ntmps144
    go_wp2
    go_ret
    exact ⟨rfl, Ext.refl _⟩
  · have hz : szL left l.length = left - l.length := by unfold szL; rw [if_neg hlt]
    rw [hz]
    go_enter Try.func144, Try.ntmps144
    go_wp2
    go_ret
    exact ⟨rfl, Ext.refl _⟩
end
section
open Go.ChangeShapes Go.WideShapes Go.ChangeAt Go.RowKit Go.Deep
set_option maxHeartbeats 400000 in
theorem l_szPathPart (x : Part) (v : Value) (left : Int) (w : World) (r : RdS Hop.rep w v x.hops) (h0 : 0 ≤ left) (h1 : left ≤ 1048576) :
    Calls Try.prog 129 #[.agg #[.int .i64 x.kind, .int .i64 x.ts, .int .i64 x.beta, v], .int .i64 left] w fun e w' => e = .returned (.int .i64 (szL left x.size)) ∧ Ext w w' := by
  go_enter Try.func129, Try.ntmps129
  have hx0 : Ext w (w.alloc (.cells #[.int .i64 x.kind, .int .i64 x.ts, .int .i64 x.beta, v] 165)) := (Ext.refl _).alloc _
  go_wp2_with fail
  refine (l_szHopS x.hops _ _ _ (r.ext hx0) h0 h1).mono ?_
  rintro e w1 ⟨rfl, k1⟩
  have hx1 := hx0.trans k1
  by_cases hlt : left - x.hops.length < 0
  · have hz : szL left x.size = -1 := if_pos hlt
    have hz1 : szL left x.hops.length = -1 := if_pos hlt
    rw [hz1]
    have HZ := Lib.hid hz; clear hz hz1
    go_wp2_with fail
    go_ret
    exact ⟨ret_int HZ.out.symm, hx1⟩
  · have hz : szL left x.size = left - x.hops.length := if_neg hlt
    have hz1 : szL left x.hops.length = left - x.hops.length := if_neg hlt
    rw [hz1]
    have HZ := Lib.hid hz; clear hz hz1
    go_wp2_with fail
    go_ret
    exact ⟨ret_int HZ.out.symm, hx1⟩
set_option maxHeartbeats 400000 in
theorem l_szPathPartS (l : List Part) (v : Value) (left : Int) (w : World) (hv : RdS Part.rep w v l) (h0 : 0 ≤ left) (h1 : left ≤ 1048576) :
    Calls Try.prog 105 #[v, .int .i64 left] w fun e w' => e = .returned (.int .i64 (szL left (l.length + hopsN l))) ∧ Ext w w' := by
  obtain ⟨o, cap, rfl, hsm⟩ := hv.shape
  by_cases hlt0 : left - l.length < 0
  · have hz : szL left (l.length + hopsN l) = -1 := if_pos (by omega)
    have HZ := Lib.hid hz; clear hz
    go_enter Try.func105, Try.ntmps105
    go_wp2
    go_ret
    exact ⟨ret_int HZ.out.symm, Ext.refl _⟩
  · go_enter Try.func105, Try.ntmps105
    go_wp2
    go_loopw [1, 5] (fun t i wr => ∃ (k : Nat), k ≤ l.length ∧ i = .int .i64 k ∧ t = .int .i64 (left - l.length - hopsN (l.take k)) ∧ 0 ≤ left - l.length - hopsN (l.take k) ∧ Ext w wr) (fun _ i _ => l.length - (intOf i).toNat)
    case atStart => exact ⟨0, Nat.zero_le _, rfl, by simp [hopsN], by simp [hopsN]; omega, Ext.refl _⟩
    case round =>
      obtain ⟨k, hk, rfl, rfl, hle, hx⟩ := hrel
      by_cases hlt : k < l.length
      · obtain ⟨b, off, oh, ch, rfl, hc, hr⟩ := Part.at (hv.ext hx) k hlt
        have hsn := hopsN_snoc hlt
        have htl := hopsN_take_le l (k + 1)
        go_wp2_with fail
        refine (l_szPathPart l[k] _ _ _ hr hle (by omega)).mono ?_
        rintro e w1 ⟨rfl, k1⟩
        have hx1 := hx.trans k1
        by_cases hlt2 : left - l.length - hopsN (l.take k) - l[k].hops.length < 0
        · have hz1 : szL (left - l.length - hopsN (l.take k)) l[k].size = -1 := if_pos hlt2
          have hz : szL left (l.length + hopsN l) = -1 := if_pos (by omega)
          rw [hz1]
          have HZ := Lib.hid hz; clear hz hz1
          have HS := Lib.hid hsn; clear hsn
          go_wp2_with fail
          go_ret
          exact ⟨ret_int HZ.out.symm, hx1⟩
        · have hz1 : szL (left - l.length - hopsN (l.take k)) l[k].size = left - l.length - hopsN (l.take (k + 1)) := by
            rw [show szL (left - l.length - hopsN (l.take k)) l[k].size = left - l.length - hopsN (l.take k) - l[k].hops.length from if_neg hlt2]; omega
          have hp : 0 ≤ left - l.length - hopsN (l.take (k + 1)) := by omega
          rw [hz1]
          clear hz1 hsn hlt2 htl
          go_wp2_with fail
          go_roundw
          case rel => exact ⟨k + 1, by omega, by go_num, rfl, hp, hx1⟩
          case measure => simp [intOf]; omega
      · have hkl : l.take k = l := List.take_of_length_le (by omega)
        rw [hkl] at hle ⊢
        have hz : szL left (l.length + hopsN l) = left - l.length - hopsN l := by
          unfold szL; rw [if_neg (by omega)]; omega
        have HZ := Lib.hid hz; clear hz hkl
        go_wp2
        go_ret
        exact ⟨ret_int HZ.out.symm, hx⟩
set_option maxHeartbeats 400000 in
theorem l_szPath (x : Pth) (v : Value) (left : Int) (w : World) (r : RdS Part.rep w v x.parts) (h0 : 0 ≤ left) (h1 : left ≤ 1048576) :
    Calls Try.prog 67 #[.agg #[v], .int .i64 left] w fun e w' => e = .returned (.int .i64 (szL left x.size)) ∧ Ext w w' := by
  go_enter Try.func67, Try.ntmps67
  have hx0 : Ext w (w.alloc (.cells #[v] 29)) := (Ext.refl _).alloc _
  go_wp2_with fail
  refine (l_szPathPartS x.parts _ _ _ (r.ext hx0) h0 h1).mono ?_
  rintro e w1 ⟨rfl, k1⟩
  have hx1 := hx0.trans k1
  by_cases hlt : left - (x.parts.length + hopsN x.parts : Nat) < 0
  · have hz : szL left x.size = -1 := if_pos hlt
    have hz1 : szL left (x.parts.length + hopsN x.parts) = -1 := if_pos hlt
    rw [hz1]
    have HZ := Lib.hid hz; clear hz hz1
    go_wp2_with fail
    go_ret
    exact ⟨ret_int HZ.out.symm, hx1⟩
  · have hz : szL left x.size = left - (x.parts.length + hopsN x.parts : Nat) := if_neg hlt
    have hz1 : szL left (x.parts.length + hopsN x.parts) = left - (x.parts.length + hopsN x.parts : Nat) := if_neg hlt
    rw [hz1]
    have HZ := Lib.hid hz; clear hz hz1
    go_wp2_with fail
    go_ret
    exact ⟨ret_int HZ.out.symm, hx1⟩
set_option maxHeartbeats 1000000 in
theorem l_toPathPart (x : Part) (v : Value) (w : World) (r : RdS Hop.rep w v x.hops) (hl : x.size ≤ 1048576) :
    Calls Try.prog 130 #[.agg #[.int .i64 x.kind, .int .i64 x.ts, .int .i64 x.beta, v]] w fun e w' => ∃ u, e = .returned (.agg #[.int .i64 x.kind, .int .i64 x.ts, .int .i64 x.beta, u]) ∧ OwnF Hop.f 5 w.heap.size 108 w' u x.hops ∧ Ext w w' := by
  unfold Part.size at hl
  go_enter Try.func130, Try.ntmps130
  go_wp2_with fail
  refine (l_toHopS x.hops _ _ (r.ext (by repeat (first | exact Ext.refl _ | apply Ext.alloc | (refine Ext.setCell ?_ (by simp) _)))) (by omega)).mono ?_
  rintro e w1 ⟨u1, rfl, o1, k1⟩
  obtain ⟨oo1, cc1, rfl, _⟩ := (OwnF.rd (hf := Hop.flen) o1).shape
  have hb0 := k1.block (al3 w _ _ _).1
  have hb1 := k1.block (al3 w _ _ _).2.1
  have hb2 := k1.block (al3 w _ _ _).2.2
  have hx1 := (ext3 w _ _ _).trans k1
  have hs1 := k1.size
  simp only [nblk_alloc] at hs1
  have c1 := blk4 hb1
  have c2 := blk4 hb2
  have g1 := fr_of hb1 0
  have g11 := fr_of hb1 1
  have g12 := fr_of hb1 2
  have g13 := fr_of hb1 3
  have g2 := fr_of hb2 3
  clear hb0 hb1 hb2
  go_wp2_with fail
  refine bodyPost_ret (v := .agg #[.int .i64 x.kind, .int .i64 x.ts, .int .i64 x.beta, .slice oo1 x.hops.length cc1]) (by simp [results, Try.results130, go_sem, c1]) rfl ⟨_, rfl, ?_, ?_⟩
  · exact (((((o1.set (by simp) _).set (by simp) _).set (by simp) _).set (by simp) _).set (by simp) _).mono (by simp; omega)
  · exact ((((hx1.setCell (by simp; omega) _).setCell (by simp) _).setCell (by simp) _).setCell (by simp) _).setCell (by simp) _
set_option maxHeartbeats 1000000 in
theorem l_toPathPartS (l : List Part) (v : Value) (w : World) (hv : RdS Part.rep w v l) (hl : l.length + hopsN l ≤ 1048576) :
    Calls Try.prog 106 #[v] w fun e w' => ∃ v', e = .returned v' ∧ Part.own.own (rng w.heap.size w'.heap.size) w' v' l ∧ Ext w w' := by
  obtain ⟨o, cap, rfl, hsm⟩ := hv.shape
  obtain ⟨i0, hi, hz0, hz1, hz2⟩ := info_parts Try.infoPart
  have Hi := Lib.hid hi; clear hi
  go_enter Try.func106, Try.ntmps106
  go_wp2_with (with_reducible refine wpList_make_full _ rfl _ _ 44 rfl w.heap.size 167 i0 _ 4 Try.underlying44 Hi.out hz0 hz1 .i64 .i64 _ _ l.length rfl rfl rfl rfl ?_ ?_ ?_ ?_)
  · rw [hz2]; omega
  · unfold maxLen; omega
  · exact Nat.le_refl _
  intro w1 hown hg
  have hx1 : Ext w w1 := (Ext.refl w).grownNone hg
  have hown1 : Part.own.own (rng w.heap.size w1.heap.size) w1 (.slice (some ⟨w.heap.size, 0, none⟩) l.length l.length) (List.replicate l.length ⟨0, 0, 0, []⟩) := by
    have := madeCells_flat (n := 4) (f := capF Part.c) (fun _ => rfl) (by decide) ⟨⟨0, 0, 0, []⟩, .slice none 0 0, noB⟩ l.length
    have h2 : OwnF (capF Part.c) 4 w.heap.size 167 w1 (.slice (some ⟨w.heap.size, 0, none⟩) l.length l.length) (List.replicate l.length ⟨⟨0, 0, 0, []⟩, .slice none 0 0, noB⟩) := by
      unfold OwnF
      rw [← this, List.length_replicate]
      exact hown
    exact nest_zero (c := Part.c) (hc := Part.clen) (sub := (·.hops)) (I := Own.flat Hop.f 5 Hop.flen 108) (⟨0, 0, 0, []⟩ : Part) rfl h2.to0 (rng w.heap.size w1.heap.size) (show rng _ _ _ from ⟨Nat.le_refl _, (h2.block _ rfl).2⟩)
  clear hown hg
  go_wp2
  go_loopw [4] (fun i wr => ∃ (k : Nat) (xs : List Part), k ≤ l.length ∧ i = .int .i64 k ∧ xs.length = l.length ∧ Part.own.own (rng w.heap.size wr.heap.size) wr (.slice (some ⟨w.heap.size, 0, none⟩) l.length l.length) xs ∧ xs.take k = l.take k ∧ Ext w wr) (fun i _ => l.length - (intOf i).toNat)
  case atStart => exact ⟨0, _, Nat.zero_le _, rfl, by simp, hown1, rfl, hx1⟩
  case round =>
    obtain ⟨k, xs, hk, rfl, hxl, hown, htk, hx⟩ := hrel
    have Htk := Lib.hid htk; clear htk
    have Hxl := Lib.hid hxl; clear hxl
    by_cases hlt : k < l.length
    · obtain ⟨b, off, oh, ch, rfl, hcc, hr⟩ := Part.at (hv.ext hx) k hlt
      have hle := hopsN_le hlt
      go_wp2_with fail
      refine (l_toPathPart l[k] _ _ hr (by unfold Part.size; omega)).mono ?_
      rintro e w2 ⟨u2, rfl, o2, h2⟩
      obtain ⟨ou, cu, rfl, _⟩ := (OwnF.rd (hf := Hop.flen) o2).shape
      have hx2 := hx.trans h2
      have hown2 := Own.ext hown h2
      obtain ⟨hv3, T3, hc3, _⟩ := nest_at hown2 k (by rw [Hxl.out]; exact hlt)
      have d0 := hc3 0 _ rfl
      have d1 := hc3 1 _ rfl
      have d2 := hc3 2 _ rfl
      have d3 := hc3 3 _ rfl
      simp only [Nat.add_zero] at d0
      have f0 := nest_free hown2 (k * 4)
      have f1 := nest_free hown2 (k * 4 + 1)
      have f2 := nest_free hown2 (k * 4 + 2)
      have f3 := nest_free hown2 (k * 4 + 3)
      have key := fun (w3 : World) => nest_put (w2 := w3) (S' := rng w.heap.size w2.heap.size) hown k (by rw [Hxl.out]; exact hlt) l[k] (.slice ou l[k].hops.length cu) h2 (Own.ofF (hf := Hop.flen) o2) (fun b hb => ⟨⟨Nat.le_trans hx.size hb.1, hb.2⟩, hb.1, hb.2⟩) (fun b hb => ⟨hb.1, Nat.lt_of_lt_of_le hb.2 h2.size⟩)
      have key2 : ∃ w3, w3 = ((((w2.setCell ⟨w.heap.size, k * 4, none⟩ (.int .i64 l[k].kind)).setCell ⟨w.heap.size, k * 4 + 1, none⟩ (.int .i64 l[k].ts)).setCell ⟨w.heap.size, k * 4 + 2, none⟩ (.int .i64 l[k].beta)).setCell ⟨w.heap.size, k * 4 + 3, none⟩ (.slice ou l[k].hops.length cu)) ∧ Part.own.own (rng w.heap.size w3.heap.size) w3 (.slice (some ⟨w.heap.size, 0, none⟩) l.length l.length) (xs.set k l[k]) ∧ Ext w w3 := by
        have hrow := fun (qs : List (Cap Part)) (hq : qs.map (·.dat) = xs) (ho : OwnF (capF Part.c) 4 0 167 w2 (.slice (some ⟨w.heap.size, 0, none⟩) l.length l.length) qs) => Part.row_set ho k (by rw [← List.length_map (f := fun q : Cap Part => q.dat), hq, Hxl.out]; exact hlt) ⟨l[k], .slice ou l[k].hops.length cu, rng wr.heap.size w2.heap.size⟩
        have hg3 : w2.grownBy ((((w2.setCell ⟨w.heap.size, k * 4, none⟩ (.int .i64 l[k].kind)).setCell ⟨w.heap.size, k * 4 + 1, none⟩ (.int .i64 l[k].ts)).setCell ⟨w.heap.size, k * 4 + 2, none⟩ (.int .i64 l[k].beta)).setCell ⟨w.heap.size, k * 4 + 3, none⟩ (.slice ou l[k].hops.length cu)) (some w.heap.size) := by
          obtain ⟨qs, hq, ho, _⟩ := hown2
          exact (hrow qs hq ho).2
        exact ⟨_, rfl, Part.own.mono (key _ hg3 (fun qs hq ho => (hrow qs hq ho).1)) (fun b hb => ⟨hb.1, Nat.lt_of_lt_of_le hb.2 hg3.size⟩), hx2.grown hg3 (fun _ e => by cases e; exact Nat.le_refl _)⟩
      obtain ⟨w3, hw3, ho3, hx3⟩ := key2
      have HW3 := Lib.hid hw3; clear hw3 key hc3 hown hown2
      go_wp2_with fail
      rw [← HW3.out]
      go_roundw
      case rel => exact ⟨k + 1, _, by omega, by go_num, by simpa using Hxl.out, ho3, take_set_snoc Htk.out Hxl.out hlt, hx3⟩
      case measure => simp [intOf]; omega
    · go_wp2
      go_ret
      refine ⟨_, rfl, ?_, hx⟩
      obtain rfl : xs = l := by
        have := Htk.out
        rwa [List.take_of_length_le (by rw [Hxl.out]; omega), List.take_of_length_le (by omega)] at this
      exact hown
set_option maxHeartbeats 1000000 in
theorem l_toPath (x : Pth) (v : Value) (w : World) (r : RdS Part.rep w v x.parts) (hl : x.size ≤ 1048576) :
    Calls Try.prog 74 #[.agg #[v]] w fun e w' => ∃ u, e = .returned (.agg #[u]) ∧ Part.own.own (rng w.heap.size w'.heap.size) w' u x.parts ∧ Ext w w' := by
  unfold Pth.size at hl
  go_enter Try.func74, Try.ntmps74
  go_wp2_with fail
  refine (l_toPathPartS x.parts _ _ (r.ext (by repeat (first | exact Ext.refl _ | apply Ext.alloc | (refine Ext.setCell ?_ (by simp) _)))) (by omega)).mono ?_
  rintro e w1 ⟨u1, rfl, o1, k1⟩
  obtain ⟨oo1, cc1, rfl, _⟩ := (Part.ord o1).shape
  have hb1 := k1.block (al3 w _ _ _).2.1
  have hb2 := k1.block (al3 w _ _ _).2.2
  have hx1 := (ext3 w _ _ _).trans k1
  have hs1 := k1.size
  simp only [nblk_alloc] at hs1
  have c1 := blk1 hb1
  have c2 := blk1 hb2
  have g1 := fr_of hb1 0
  have g2 := fr_of hb2 0
  clear hb1 hb2
  go_wp2_with fail
  refine bodyPost_ret (v := .agg #[.slice oo1 x.parts.length cc1]) (by simp [results, Try.results74, go_sem, c1]) rfl ⟨_, rfl, ?_, ?_⟩
  · have hch : Chg (fun b => b < w.heap.size + 3) w1 ((w1.setCell ⟨w.heap.size + 1 + 1, 0, none⟩ (.slice oo1 x.parts.length cc1)).setCell ⟨w.heap.size + 1, 0, none⟩ (.slice oo1 x.parts.length cc1)) := by
      refine ⟨rfl, rfl, rfl, by simp, fun k hk hn => ?_⟩
      rw [Below.heap_setCell _ _ _ _ (by simp only; omega), Below.heap_setCell _ _ _ _ (by simp only; omega)]
    refine Own.mono _ (Own.kept _ o1 hch (fun b hb h => by have := hb.1; simp only [nblk_alloc] at this; omega)) (fun b hb => ⟨?_, ?_⟩)
    · have := hb.1; simp only [nblk_alloc] at this; omega
    · have := hb.2; simpa using this
  · exact ((hx1.setCell (by simp; omega) _).setCell (by simp) _)
set_option maxHeartbeats 1000000 in
theorem l_eqPathPart (x y : Part) (v u : Value) (w : World) (r : RdS Hop.rep w v x.hops) (s : RdS Hop.rep w u y.hops) :
    Calls Try.prog 131 #[.agg #[.int .i64 x.kind, .int .i64 x.ts, .int .i64 x.beta, v], .agg #[.int .i64 y.kind, .int .i64 y.ts, .int .i64 y.beta, u]] w fun e w' => e = .returned (.bool (decide (x = y))) ∧ Ext w w' := by
  have heq : decide (x = y) = (!(x.kind != y.kind) && (!(x.ts != y.ts) && (!(x.beta != y.beta) && decide (x.hops = y.hops)))) := by
    cases x; cases y; simp only [nbne, Part.mk.injEq, Bool.decide_and]
  have HEQ := Lib.hid heq; clear heq
  go_enter Try.func131, Try.ntmps131
  have hx0 := ext2 w (.cells #[.int .i64 x.kind, .int .i64 x.ts, .int .i64 x.beta, v] 167) (.cells #[.int .i64 y.kind, .int .i64 y.ts, .int .i64 y.beta, u] 167)
  cases hc : (x.kind != y.kind)
  · cases hc2 : (x.ts != y.ts)
    · cases hc3 : (x.beta != y.beta)
      · rw [hc, hc2, hc3] at HEQ
        go_wp2_with fail
        refine (l_eqHopS x.hops y.hops _ _ _ (r.ext hx0) (s.ext hx0)).mono ?_
        rintro e w1 ⟨rfl, k1⟩
        have hx1 := hx0.trans k1
        cases hr : decide (x.hops = y.hops)
        · rw [hr] at HEQ
          go_wp2_with fail
          go_ret
          exact ⟨ret_bool HEQ.out.symm, hx1⟩
        · rw [hr] at HEQ
          go_wp2_with fail
          go_ret
          exact ⟨ret_bool HEQ.out.symm, hx1⟩
      · rw [hc, hc2, hc3] at HEQ
        go_wp2_with fail
        go_ret
        exact ⟨ret_bool HEQ.out.symm, hx0⟩
    · rw [hc, hc2] at HEQ
      go_wp2_with fail
      go_ret
      exact ⟨ret_bool HEQ.out.symm, hx0⟩
  · rw [hc] at HEQ
    go_wp2_with fail
    go_ret
    exact ⟨ret_bool HEQ.out.symm, hx0⟩
set_option maxRecDepth 100000 in
set_option maxHeartbeats 1000000 in
theorem l_eqPathPartS (a b : List Part) (va vb : Value) (w : World) (ha : RdS Part.rep w va a) (hb : RdS Part.rep w vb b) :
    Calls Try.prog 107 #[va, vb] w fun e w' => e = .returned (.bool (decide (a = b))) ∧ Ext w w' := by
  obtain ⟨oa, ca, rfl, hsa⟩ := ha.shape
  obtain ⟨ob, cb, rfl, hsb⟩ := hb.shape
  by_cases hne : a.length = b.length
  · have Hne := Lib.hid hne
    have t1 : ((a.length : Int) != (b.length : Int)) = false := by simp [hne]
    clear hne
    go_enter Try.func107, Try.ntmps107
    go_wp2
    go_loopw [5] (fun i wr => ∃ (k : Nat), k ≤ a.length ∧ i = .int .i64 k ∧ a.take k = b.take k ∧ Ext w wr) (fun i _ => a.length - (intOf i).toNat)
    case atStart => exact ⟨0, Nat.zero_le _, rfl, rfl, Ext.refl _⟩
    case round =>
      obtain ⟨k, hk, rfl, htk, hx⟩ := hrel
      have Htk := Lib.hid htk; clear htk
      by_cases hlt : k < a.length
      · have hlb : k < b.length := by rw [← Hne.out]; exact hlt
        obtain ⟨b1, off1, oh1, ch1, rfl, hc1, hr1⟩ := Part.at (ha.ext hx) k hlt
        obtain ⟨b2, off2, oh2, ch2, rfl, hc2, hr2⟩ := Part.at (hb.ext hx) k hlb
        go_wp2_with fail
        refine planStep (.blk [0, 1, 2, 3, 4, 5, 6, 7] (.one 8 (.blk [9] .done))) [] (by kernel_rfl) (by kernel_rfl) ?_
        refine blkStep (fun K HK => ?_)
        simp only [PK]
        go_wp2_with fail
        refine HK.out _ _ ?_
        clear HK K
        refine oneStep (fun K HK => ?_)
        simp only [PK]
        go_wp2_with fail
        refine (l_eqPathPart a[k] b[k] _ _ _ (hr1.ext (Ext.refl _).drew) (hr2.ext (Ext.refl _).drew)).mono ?_
        rintro e w1 ⟨rfl, h1⟩
        have hx1 := hx.drew.trans h1
        cases hd : decide (a[k] = b[k])
        · have hab : decide (a = b) = false := by
            rw [decide_eq_false_iff_not]; rintro rfl; simp at hd
          have Hab := Lib.hid hab; clear hab
          go_wp2_with fail
          refine HK.out _ _ h1 ?_
          clear HK K
          refine blkStep (fun K HK => ?_)
          simp only [PK]
          go_wp2_with fail
          refine HK.out _ _ ?_
          clear HK K
          refine doneStep (by kernel_rfl) ?_
          go_wp2_with fail
          go_ret
          exact ⟨ret_bool Hab.out.symm, hx1⟩
        · have hd' : a[k] = b[k] := of_decide_eq_true hd
          have HD := Lib.hid hd'; clear hd'
          go_wp2_with fail
          refine HK.out _ _ h1 ?_
          clear HK K
          refine blkStep (fun K HK => ?_)
          simp only [PK]
          go_wp2_with fail
          refine HK.out _ _ ?_
          clear HK K
          refine doneStep (by kernel_rfl) ?_
          go_wp2_with fail
          go_roundw
          case rel => exact ⟨k + 1, by omega, by go_num, take_snoc2 Htk.out hlt hlb HD.out, hx1⟩
          case measure => simp [intOf]; omega
      · have hab : decide (a = b) = true := by
          have := Htk.out
          rw [List.take_of_length_le (by omega), List.take_of_length_le (by rw [← Hne.out]; omega)] at this
          simp [this]
        have Hab := Lib.hid hab; clear hab
        go_wp2
        go_ret
        exact ⟨ret_bool Hab.out.symm, hx⟩
  · have t1 : ((a.length : Int) != (b.length : Int)) = true := by simp [bne_iff_ne]; omega
    have hab : decide (a = b) = false := by
      rw [decide_eq_false_iff_not]; rintro rfl; exact hne rfl
    have Hab := Lib.hid hab; clear hab
    clear hne
    go_enter Try.func107, Try.ntmps107
    go_wp2
    go_ret
    exact ⟨ret_bool Hab.out.symm, Ext.refl _⟩
set_option maxHeartbeats 1000000 in
theorem l_eqPath (x y : Pth) (v u : Value) (w : World) (r : RdS Part.rep w v x.parts) (s : RdS Part.rep w u y.parts) :
    Calls Try.prog 81 #[.agg #[v], .agg #[u]] w fun e w' => e = .returned (.bool (decide (x = y))) ∧ Ext w w' := by
  have heq : decide (x = y) = decide (x.parts = y.parts) := by
    cases x; cases y; simp only [Pth.mk.injEq]
  have HEQ := Lib.hid heq; clear heq
  go_enter Try.func81, Try.ntmps81
  have hx0 := ext2 w (.cells #[v] 46) (.cells #[u] 46)
  go_wp2_with fail
  refine (l_eqPathPartS x.parts y.parts _ _ _ (r.ext hx0) (s.ext hx0)).mono ?_
  rintro e w1 ⟨rfl, k1⟩
  have hx1 := hx0.trans k1
  cases hr : decide (x.parts = y.parts)
  · rw [hr] at HEQ
    go_wp2_with fail
    go_ret
    exact ⟨ret_bool HEQ.out.symm, hx1⟩
  · rw [hr] at HEQ
    go_wp2_with fail
    go_ret
    exact ⟨ret_bool HEQ.out.symm, hx1⟩
end
section
open Go.ChangeShapes Go.WideShapes Go.ChangeAt Go.RowKit Go.Deep
set_option maxHeartbeats 400000 in
theorem l_toStep (x : Step) (w : World) :
    Calls Try.prog 73 #[.agg #[.int .i64 x.asn, .int .i64 x.ing, .int .i64 x.eg]] w fun e w' => e = .returned (.agg #[.int .i64 x.asn, .int .i64 x.ing, .int .i64 x.eg]) ∧ Ext w w' := by
  go_enter Try.func73, Try.ntmps73
  go_wp2
  exact bodyPost_ret (v := .agg #[.int .i64 x.asn, .int .i64 x.ing, .int .i64 x.eg]) (by simp [results, Try.results73, go_sem]) rfl ⟨rfl, by repeat (first | exact Ext.refl _ | apply Ext.alloc | (refine Ext.setCell ?_ (by simp) _))⟩
set_option maxHeartbeats 400000 in
theorem l_toStepS (l : List Step) (v : Value) (w : World) (hv : RdS Step.rep w v l) (hl : l.length ≤ 1048576) :
    Calls Try.prog 34 #[v] w fun e w' => ∃ v', e = .returned v' ∧ OwnF Step.f 3 w.heap.size 79 w' v' l ∧ Ext w w' := by
  obtain ⟨o, cap, rfl, hsm⟩ := hv.shape
  obtain ⟨i0, hi, hz0, hz1, hz2⟩ := info_parts Try.infoStep
  have Hi := Lib.hid hi; clear hi
  go_enter Try.func34, Try.ntmps34
  go_wp2_with (with_reducible refine wpList_make_full _ rfl _ _ 43 rfl w.heap.size 79 i0 _ 3 Try.underlying43 Hi.out hz0 hz1 .i64 .i64 _ _ l.length rfl rfl rfl rfl ?_ ?_ ?_ ?_)
  · rw [hz2]; omega
  · unfold maxLen; omega
  · exact Nat.le_refl _
  intro w1 hown hg
  have hx1 : Ext w w1 := (Ext.refl w).grownNone hg
  have hown1 : OwnF Step.f 3 w.heap.size 79 w1 (.slice (some ⟨w.heap.size, 0, none⟩) l.length l.length) (List.replicate l.length ⟨0, 0, 0⟩) := by
    have := madeCells_flat Step.flen (by decide) ⟨0, 0, 0⟩ l.length
    unfold OwnF
    rw [← this, List.length_replicate]
    exact hown
  clear hown hg
  go_wp2
  go_loopw [4] (fun i wr => ∃ (k : Nat) (xs : List Step), k ≤ l.length ∧ i = .int .i64 k ∧ xs.length = l.length ∧ OwnF Step.f 3 w.heap.size 79 wr (.slice (some ⟨w.heap.size, 0, none⟩) l.length l.length) xs ∧ xs.take k = l.take k ∧ Ext w wr) (fun i _ => l.length - (intOf i).toNat)
  case atStart => exact ⟨0, _, Nat.zero_le _, rfl, by simp, hown1, rfl, hx1⟩
  case round =>
    obtain ⟨k, xs, hk, rfl, hxl, hown, htk, hx⟩ := hrel
    have Htk := Lib.hid htk; clear htk
    have Hxl := Lib.hid hxl; clear hxl
    by_cases hlt : k < l.length
    · obtain ⟨b, off, rfl, hcc⟩ := Step.at (hv.ext hx) k hlt
      go_wp2_with fail
      refine (l_toStep l[k] _).mono ?_
      rintro e w2 ⟨rfl, h2⟩
      have hx2 := hx.trans h2
      have hown2 := hown.ext h2
      have hcs := Step.own_at hown2 k (by rw [Hxl.out]; exact hlt)
      have f0 := hown2.free (k * 3)
      have f1 := hown2.free (k * 3 + 1)
      have f2 := hown2.free (k * 3 + 2)
      obtain ⟨ho3, hg3⟩ := Step.own_set hown2 k (by rw [Hxl.out]; exact hlt) l[k]
      have hx3 := hx2.grown hg3 (fun _ e => by cases e; exact Nat.le_refl _)
      go_wp2_with fail
      go_roundw
      case rel => exact ⟨k + 1, _, by omega, by go_num, by simpa using Hxl.out, ho3, take_set_snoc Htk.out Hxl.out hlt, hx3⟩
      case measure => simp [intOf]; omega
    · go_wp2
      go_ret
      refine ⟨_, rfl, ?_, hx⟩
      obtain rfl : xs = l := by
        have := Htk.out
        rwa [List.take_of_length_le (by rw [Hxl.out]; omega), List.take_of_length_le (by omega)] at this
      exact hown
set_option maxHeartbeats 400000 in
theorem l_eqStep (x y : Step) (w : World) :
    Calls Try.prog 80 #[.agg #[.int .i64 x.asn, .int .i64 x.ing, .int .i64 x.eg], .agg #[.int .i64 y.asn, .int .i64 y.ing, .int .i64 y.eg]] w fun e w' => e = .returned (.bool (decide (x = y))) ∧ Ext w w' := by
  rw [Step.eq_iff]
  go_enter Try.func80, Try.ntmps80
  go_wp2
  all_goals
    go_ret
    refine ⟨ret_bool ?_, ((Ext.refl _).alloc _).alloc _⟩
    simp only [*, Bool.not_true, Bool.not_false, Bool.and_true, Bool.and_false, Bool.false_and]
set_option maxRecDepth 100000 in
set_option maxHeartbeats 400000 in
theorem l_eqStepS (a b : List Step) (va vb : Value) (w : World) (ha : RdS Step.rep w va a) (hb : RdS Step.rep w vb b) :
    Calls Try.prog 41 #[va, vb] w fun e w' => e = .returned (.bool (decide (a = b))) ∧ Ext w w' := by
  obtain ⟨oa, ca, rfl, hsa⟩ := ha.shape
  obtain ⟨ob, cb, rfl, hsb⟩ := hb.shape
  by_cases hne : a.length = b.length
  · have Hne := Lib.hid hne
    have t1 : ((a.length : Int) != (b.length : Int)) = false := by simp [hne]
    clear hne
    go_enter Try.func41, Try.ntmps41
    go_wp2
    go_loopw [5] (fun i wr => ∃ (k : Nat), k ≤ a.length ∧ i = .int .i64 k ∧ a.take k = b.take k ∧ Ext w wr) (fun i _ => a.length - (intOf i).toNat)
    case atStart => exact ⟨0, Nat.zero_le _, rfl, rfl, Ext.refl _⟩
    case round =>
      obtain ⟨k, hk, rfl, htk, hx⟩ := hrel
      have Htk := Lib.hid htk; clear htk
      by_cases hlt : k < a.length
      · have hlb : k < b.length := by rw [← Hne.out]; exact hlt
        obtain ⟨b1, off1, rfl, hc1⟩ := Step.at (ha.ext hx) k hlt
        obtain ⟨b2, off2, rfl, hc2⟩ := Step.at (hb.ext hx) k hlb
        go_wp2
        go_still_tail 8, (by kernel_rfl)
        go_wp2_with fail
        refine (l_eqStep a[k] b[k] _).mono ?_
        rintro e w2 ⟨rfl, h2⟩
        have hx2 := hx.trans (Ext.trans (by repeat (first | exact Ext.refl _ | apply Ext.drew | apply Ext.drewN)) h2)
        by_cases heq : a[k] = b[k]
        · have t2 : decide (a[k] = b[k]) = true := by simp [heq]
          have Heq := Lib.hid heq; clear heq
          go_wp2_with fail
          go_roundw
          case rel => exact ⟨k + 1, by omega, by go_num, take_snoc2 Htk.out hlt hlb Heq.out, hx2⟩
          case measure => simp [intOf]; omega
        · have t2 : decide (a[k] = b[k]) = false := by simp [heq]
          have hab : decide (a = b) = false := by
            rw [decide_eq_false_iff_not]; rintro rfl; exact heq rfl
          have Hab := Lib.hid hab; clear hab
          clear heq
          go_wp2_with fail
          go_ret
          exact ⟨ret_bool Hab.out.symm, hx2⟩
      · have hab : decide (a = b) = true := by
          have := Htk.out
          rw [List.take_of_length_le (by omega), List.take_of_length_le (by rw [← Hne.out]; omega)] at this
          simp [this]
        have Hab := Lib.hid hab; clear hab
        go_wp2
        go_ret
        exact ⟨ret_bool Hab.out.symm, hx⟩
  · have t1 : ((a.length : Int) != (b.length : Int)) = true := by simp [bne_iff_ne]; omega
    have hab : decide (a = b) = false := by
      rw [decide_eq_false_iff_not]; rintro rfl; exact hne rfl
    have Hab := Lib.hid hab; clear hab
    clear hne
    go_enter Try.func41, Try.ntmps41
    go_wp2
    go_ret
    exact ⟨ret_bool Hab.out.symm, Ext.refl _⟩
set_option maxHeartbeats 400000 in
theorem l_szStepS (l : List Step) (v : Value) (left : Int) (w : World) (hv : RdS Step.rep w v l) (h0 : 0 ≤ left) (h1 : left ≤ 1048576) :
    Calls Try.prog 27 #[v, .int .i64 left] w fun e w' => e = .returned (.int .i64 (szL left l.length)) ∧ Ext w w' := by
  obtain ⟨o, cap, rfl, hsm⟩ := hv.shape
  by_cases hlt : left - l.length < 0
  · have hz : szL left l.length = -1 := by unfold szL; rw [if_pos hlt]
    rw [hz]
    go_enter Try.func27, Try.ntmps27
    go_wp2
    go_ret
    exact ⟨rfl, Ext.refl _⟩
  · have hz : szL left l.length = left - l.length := by unfold szL; rw [if_neg hlt]
    rw [hz]
    go_enter Try.func27, Try.ntmps27
    go_wp2
    go_ret
    exact ⟨rfl, Ext.refl _⟩
end
section
open Go.ChangeShapes Go.WideShapes Go.ChangeAt Go.RowKit Go.Deep
set_option maxHeartbeats 400000 in
theorem l_toAS (x : ASd) (w : World) :
    Calls Try.prog 71 #[.agg #[.int .i64 x.isd, .bool x.core, .int .i64 x.key]] w fun e w' => e = .returned (.agg #[.int .i64 x.isd, .bool x.core, .int .i64 x.key]) ∧ Ext w w' := by
  go_enter Try.func71, Try.ntmps71
  go_wp2
  exact bodyPost_ret (v := .agg #[.int .i64 x.isd, .bool x.core, .int .i64 x.key]) (by simp [results, Try.results71, go_sem]) rfl ⟨rfl, by repeat (first | exact Ext.refl _ | apply Ext.alloc | (refine Ext.setCell ?_ (by simp) _))⟩
set_option maxHeartbeats 400000 in
theorem l_toASS (l : List ASd) (v : Value) (w : World) (hv : RdS ASd.rep w v l) (hl : l.length ≤ 1048576) :
    Calls Try.prog 32 #[v] w fun e w' => ∃ v', e = .returned v' ∧ OwnF ASd.f 3 w.heap.size 118 w' v' l ∧ Ext w w' := by
  obtain ⟨o, cap, rfl, hsm⟩ := hv.shape
  obtain ⟨i0, hi, hz0, hz1, hz2⟩ := info_parts Try.infoASd
  have Hi := Lib.hid hi; clear hi
  go_enter Try.func32, Try.ntmps32
  go_wp2_with (with_reducible refine wpList_make_full _ rfl _ _ 38 rfl w.heap.size 118 i0 _ 3 Try.underlying38 Hi.out hz0 hz1 .i64 .i64 _ _ l.length rfl rfl rfl rfl ?_ ?_ ?_ ?_)
  · rw [hz2]; omega
  · unfold maxLen; omega
  · exact Nat.le_refl _
  intro w1 hown hg
  have hx1 : Ext w w1 := (Ext.refl w).grownNone hg
  have hown1 : OwnF ASd.f 3 w.heap.size 118 w1 (.slice (some ⟨w.heap.size, 0, none⟩) l.length l.length) (List.replicate l.length ⟨0, false, 0⟩) := by
    have := madeCells_flat ASd.flen (by decide) ⟨0, false, 0⟩ l.length
    unfold OwnF
    rw [← this, List.length_replicate]
    exact hown
  clear hown hg
  go_wp2
  go_loopw [4] (fun i wr => ∃ (k : Nat) (xs : List ASd), k ≤ l.length ∧ i = .int .i64 k ∧ xs.length = l.length ∧ OwnF ASd.f 3 w.heap.size 118 wr (.slice (some ⟨w.heap.size, 0, none⟩) l.length l.length) xs ∧ xs.take k = l.take k ∧ Ext w wr) (fun i _ => l.length - (intOf i).toNat)
  case atStart => exact ⟨0, _, Nat.zero_le _, rfl, by simp, hown1, rfl, hx1⟩
  case round =>
    obtain ⟨k, xs, hk, rfl, hxl, hown, htk, hx⟩ := hrel
    have Htk := Lib.hid htk; clear htk
    have Hxl := Lib.hid hxl; clear hxl
    by_cases hlt : k < l.length
    · obtain ⟨b, off, rfl, hcc⟩ := ASd.at (hv.ext hx) k hlt
      go_wp2_with fail
      refine (l_toAS l[k] _).mono ?_
      rintro e w2 ⟨rfl, h2⟩
      have hx2 := hx.trans h2
      have hown2 := hown.ext h2
      have hcs := ASd.own_at hown2 k (by rw [Hxl.out]; exact hlt)
      have f0 := hown2.free (k * 3)
      have f1 := hown2.free (k * 3 + 1)
      have f2 := hown2.free (k * 3 + 2)
      obtain ⟨ho3, hg3⟩ := ASd.own_set hown2 k (by rw [Hxl.out]; exact hlt) l[k]
      have hx3 := hx2.grown hg3 (fun _ e => by cases e; exact Nat.le_refl _)
      go_wp2_with fail
      go_roundw
      case rel => exact ⟨k + 1, _, by omega, by go_num, by simpa using Hxl.out, ho3, take_set_snoc Htk.out Hxl.out hlt, hx3⟩
      case measure => simp [intOf]; omega
    · go_wp2
      go_ret
      refine ⟨_, rfl, ?_, hx⟩
      obtain rfl : xs = l := by
        have := Htk.out
        rwa [List.take_of_length_le (by rw [Hxl.out]; omega), List.take_of_length_le (by omega)] at this
      exact hown
set_option maxHeartbeats 400000 in
theorem l_eqAS (x y : ASd) (w : World) :
    Calls Try.prog 78 #[.agg #[.int .i64 x.isd, .bool x.core, .int .i64 x.key], .agg #[.int .i64 y.isd, .bool y.core, .int .i64 y.key]] w fun e w' => e = .returned (.bool (decide (x = y))) ∧ Ext w w' := by
  rw [ASd.eq_iff]
  go_enter Try.func78, Try.ntmps78
  go_wp2
  all_goals
    go_ret
    refine ⟨ret_bool ?_, ((Ext.refl _).alloc _).alloc _⟩
    simp_all [bne]
set_option maxRecDepth 100000 in
set_option maxHeartbeats 400000 in
theorem l_eqASS (a b : List ASd) (va vb : Value) (w : World) (ha : RdS ASd.rep w va a) (hb : RdS ASd.rep w vb b) :
    Calls Try.prog 39 #[va, vb] w fun e w' => e = .returned (.bool (decide (a = b))) ∧ Ext w w' := by
  obtain ⟨oa, ca, rfl, hsa⟩ := ha.shape
  obtain ⟨ob, cb, rfl, hsb⟩ := hb.shape
  by_cases hne : a.length = b.length
  · have Hne := Lib.hid hne
    have t1 : ((a.length : Int) != (b.length : Int)) = false := by simp [hne]
    clear hne
    go_enter Try.func39, Try.ntmps39
    go_wp2
    go_loopw [5] (fun i wr => ∃ (k : Nat), k ≤ a.length ∧ i = .int .i64 k ∧ a.take k = b.take k ∧ Ext w wr) (fun i _ => a.length - (intOf i).toNat)
    case atStart => exact ⟨0, Nat.zero_le _, rfl, rfl, Ext.refl _⟩
    case round =>
      obtain ⟨k, hk, rfl, htk, hx⟩ := hrel
      have Htk := Lib.hid htk; clear htk
      by_cases hlt : k < a.length
      · have hlb : k < b.length := by rw [← Hne.out]; exact hlt
        obtain ⟨b1, off1, rfl, hc1⟩ := ASd.at (ha.ext hx) k hlt
        obtain ⟨b2, off2, rfl, hc2⟩ := ASd.at (hb.ext hx) k hlb
        go_wp2
        go_still_tail 8, (by kernel_rfl)
        go_wp2_with fail
        refine (l_eqAS a[k] b[k] _).mono ?_
        rintro e w2 ⟨rfl, h2⟩
        have hx2 := hx.trans (Ext.trans (by repeat (first | exact Ext.refl _ | apply Ext.drew | apply Ext.drewN)) h2)
        by_cases heq : a[k] = b[k]
        · have t2 : decide (a[k] = b[k]) = true := by simp [heq]
          have Heq := Lib.hid heq; clear heq
          go_wp2_with fail
          go_roundw
          case rel => exact ⟨k + 1, by omega, by go_num, take_snoc2 Htk.out hlt hlb Heq.out, hx2⟩
          case measure => simp [intOf]; omega
        · have t2 : decide (a[k] = b[k]) = false := by simp [heq]
          have hab : decide (a = b) = false := by
            rw [decide_eq_false_iff_not]; rintro rfl; exact heq rfl
          have Hab := Lib.hid hab; clear hab
          clear heq
          go_wp2_with fail
          go_ret
          exact ⟨ret_bool Hab.out.symm, hx2⟩
      · have hab : decide (a = b) = true := by
          have := Htk.out
          rw [List.take_of_length_le (by omega), List.take_of_length_le (by rw [← Hne.out]; omega)] at this
          simp [this]
        have Hab := Lib.hid hab; clear hab
        go_wp2
        go_ret
        exact ⟨ret_bool Hab.out.symm, hx⟩
  · have t1 : ((a.length : Int) != (b.length : Int)) = true := by simp [bne_iff_ne]; omega
    have hab : decide (a = b) = false := by
      rw [decide_eq_false_iff_not]; rintro rfl; exact hne rfl
    have Hab := Lib.hid hab; clear hab
    clear hne
    go_enter Try.func39, Try.ntmps39
    go_wp2
    go_ret
    exact ⟨ret_bool Hab.out.symm, Ext.refl _⟩
set_option maxHeartbeats 400000 in
theorem l_szASS (l : List ASd) (v : Value) (left : Int) (w : World) (hv : RdS ASd.rep w v l) (h0 : 0 ≤ left) (h1 : left ≤ 1048576) :
    Calls Try.prog 25 #[v, .int .i64 left] w fun e w' => e = .returned (.int .i64 (szL left l.length)) ∧ Ext w w' := by
  obtain ⟨o, cap, rfl, hsm⟩ := hv.shape
  by_cases hlt : left - l.length < 0
  · have hz : szL left l.length = -1 := by unfold szL; rw [if_pos hlt]
    rw [hz]
    go_enter Try.func25, Try.ntmps25
    go_wp2
    go_ret
    exact ⟨rfl, Ext.refl _⟩
  · have hz : szL left l.length = left - l.length := by unfold szL; rw [if_neg hlt]
    rw [hz]
    go_enter Try.func25, Try.ntmps25
    go_wp2
    go_ret
    exact ⟨rfl, Ext.refl _⟩
end
section
open Go.ChangeShapes Go.WideShapes Go.ChangeAt Go.RowKit Go.Deep
set_option maxHeartbeats 400000 in
theorem l_toLink (x : Lnk) (w : World) :
    Calls Try.prog 72 #[.agg #[.int .i64 x.a, .int .i64 x.ai, .int .i64 x.b, .int .i64 x.bi, .int .i64 x.kind]] w fun e w' => e = .returned (.agg #[.int .i64 x.a, .int .i64 x.ai, .int .i64 x.b, .int .i64 x.bi, .int .i64 x.kind]) ∧ Ext w w' := by
  go_enter Try.func72, Try.ntmps72
  go_wp2
  exact bodyPost_ret (v := .agg #[.int .i64 x.a, .int .i64 x.ai, .int .i64 x.b, .int .i64 x.bi, .int .i64 x.kind]) (by simp [results, Try.results72, go_sem]) rfl ⟨rfl, by repeat (first | exact Ext.refl _ | apply Ext.alloc | (refine Ext.setCell ?_ (by simp) _))⟩
set_option maxHeartbeats 400000 in
theorem l_toLinkS (l : List Lnk) (v : Value) (w : World) (hv : RdS Lnk.rep w v l) (hl : l.length ≤ 1048576) :
    Calls Try.prog 33 #[v] w fun e w' => ∃ v', e = .returned v' ∧ OwnF Lnk.f 5 w.heap.size 122 w' v' l ∧ Ext w w' := by
  obtain ⟨o, cap, rfl, hsm⟩ := hv.shape
  obtain ⟨i0, hi, hz0, hz1, hz2⟩ := info_parts Try.infoLnk
  have Hi := Lib.hid hi; clear hi
  go_enter Try.func33, Try.ntmps33
  go_wp2_with (with_reducible refine wpList_make_full _ rfl _ _ 39 rfl w.heap.size 122 i0 _ 5 Try.underlying39 Hi.out hz0 hz1 .i64 .i64 _ _ l.length rfl rfl rfl rfl ?_ ?_ ?_ ?_)
  · rw [hz2]; omega
  · unfold maxLen; omega
  · exact Nat.le_refl _
  intro w1 hown hg
  have hx1 : Ext w w1 := (Ext.refl w).grownNone hg
  have hown1 : OwnF Lnk.f 5 w.heap.size 122 w1 (.slice (some ⟨w.heap.size, 0, none⟩) l.length l.length) (List.replicate l.length ⟨0, 0, 0, 0, 0⟩) := by
    have := madeCells_flat Lnk.flen (by decide) ⟨0, 0, 0, 0, 0⟩ l.length
    unfold OwnF
    rw [← this, List.length_replicate]
    exact hown
  clear hown hg
  go_wp2
  go_loopw [4] (fun i wr => ∃ (k : Nat) (xs : List Lnk), k ≤ l.length ∧ i = .int .i64 k ∧ xs.length = l.length ∧ OwnF Lnk.f 5 w.heap.size 122 wr (.slice (some ⟨w.heap.size, 0, none⟩) l.length l.length) xs ∧ xs.take k = l.take k ∧ Ext w wr) (fun i _ => l.length - (intOf i).toNat)
  case atStart => exact ⟨0, _, Nat.zero_le _, rfl, by simp, hown1, rfl, hx1⟩
  case round =>
    obtain ⟨k, xs, hk, rfl, hxl, hown, htk, hx⟩ := hrel
    have Htk := Lib.hid htk; clear htk
    have Hxl := Lib.hid hxl; clear hxl
    by_cases hlt : k < l.length
    · obtain ⟨b, off, rfl, hcc⟩ := Lnk.at (hv.ext hx) k hlt
      go_wp2_with fail
      refine (l_toLink l[k] _).mono ?_
      rintro e w2 ⟨rfl, h2⟩
      have hx2 := hx.trans h2
      have hown2 := hown.ext h2
      have hcs := Lnk.own_at hown2 k (by rw [Hxl.out]; exact hlt)
      have f0 := hown2.free (k * 5)
      have f1 := hown2.free (k * 5 + 1)
      have f2 := hown2.free (k * 5 + 2)
      have f3 := hown2.free (k * 5 + 3)
      have f4 := hown2.free (k * 5 + 4)
      obtain ⟨ho3, hg3⟩ := Lnk.own_set hown2 k (by rw [Hxl.out]; exact hlt) l[k]
      have hx3 := hx2.grown hg3 (fun _ e => by cases e; exact Nat.le_refl _)
      go_wp2_with fail
      go_roundw
      case rel => exact ⟨k + 1, _, by omega, by go_num, by simpa using Hxl.out, ho3, take_set_snoc Htk.out Hxl.out hlt, hx3⟩
      case measure => simp [intOf]; omega
    · go_wp2
      go_ret
      refine ⟨_, rfl, ?_, hx⟩
      obtain rfl : xs = l := by
        have := Htk.out
        rwa [List.take_of_length_le (by rw [Hxl.out]; omega), List.take_of_length_le (by omega)] at this
      exact hown
set_option maxHeartbeats 400000 in
theorem l_eqLink (x y : Lnk) (w : World) :
    Calls Try.prog 79 #[.agg #[.int .i64 x.a, .int .i64 x.ai, .int .i64 x.b, .int .i64 x.bi, .int .i64 x.kind], .agg #[.int .i64 y.a, .int .i64 y.ai, .int .i64 y.b, .int .i64 y.bi, .int .i64 y.kind]] w fun e w' => e = .returned (.bool (decide (x = y))) ∧ Ext w w' := by
  rw [Lnk.eq_iff]
  go_enter Try.func79, Try.ntmps79
  go_wp2
  all_goals
    go_ret
    refine ⟨ret_bool ?_, ((Ext.refl _).alloc _).alloc _⟩
    simp only [*, Bool.not_true, Bool.not_false, Bool.and_true, Bool.and_false, Bool.false_and]
set_option maxRecDepth 100000 in
set_option maxHeartbeats 400000 in
theorem l_eqLinkS (a b : List Lnk) (va vb : Value) (w : World) (ha : RdS Lnk.rep w va a) (hb : RdS Lnk.rep w vb b) :
    Calls Try.prog 40 #[va, vb] w fun e w' => e = .returned (.bool (decide (a = b))) ∧ Ext w w' := by
  obtain ⟨oa, ca, rfl, hsa⟩ := ha.shape
  obtain ⟨ob, cb, rfl, hsb⟩ := hb.shape
  by_cases hne : a.length = b.length
  · have Hne := Lib.hid hne
    have t1 : ((a.length : Int) != (b.length : Int)) = false := by simp [hne]
    clear hne
    go_enter Try.func40, Try.ntmps40
    go_wp2
    go_loopw [5] (fun i wr => ∃ (k : Nat), k ≤ a.length ∧ i = .int .i64 k ∧ a.take k = b.take k ∧ Ext w wr) (fun i _ => a.length - (intOf i).toNat)
    case atStart => exact ⟨0, Nat.zero_le _, rfl, rfl, Ext.refl _⟩
    case round =>
      obtain ⟨k, hk, rfl, htk, hx⟩ := hrel
      have Htk := Lib.hid htk; clear htk
      by_cases hlt : k < a.length
      · have hlb : k < b.length := by rw [← Hne.out]; exact hlt
        obtain ⟨b1, off1, rfl, hc1⟩ := Lnk.at (ha.ext hx) k hlt
        obtain ⟨b2, off2, rfl, hc2⟩ := Lnk.at (hb.ext hx) k hlb
        go_wp2
        go_still_tail 8, (by kernel_rfl)
        go_wp2_with fail
        refine (l_eqLink a[k] b[k] _).mono ?_
        rintro e w2 ⟨rfl, h2⟩
        have hx2 := hx.trans (Ext.trans (by repeat (first | exact Ext.refl _ | apply Ext.drew | apply Ext.drewN)) h2)
        by_cases heq : a[k] = b[k]
        · have t2 : decide (a[k] = b[k]) = true := by simp [heq]
          have Heq := Lib.hid heq; clear heq
          go_wp2_with fail
          go_roundw
          case rel => exact ⟨k + 1, by omega, by go_num, take_snoc2 Htk.out hlt hlb Heq.out, hx2⟩
          case measure => simp [intOf]; omega
        · have t2 : decide (a[k] = b[k]) = false := by simp [heq]
          have hab : decide (a = b) = false := by
            rw [decide_eq_false_iff_not]; rintro rfl; exact heq rfl
          have Hab := Lib.hid hab; clear hab
          clear heq
          go_wp2_with fail
          go_ret
          exact ⟨ret_bool Hab.out.symm, hx2⟩
      · have hab : decide (a = b) = true := by
          have := Htk.out
          rw [List.take_of_length_le (by omega), List.take_of_length_le (by rw [← Hne.out]; omega)] at this
          simp [this]
        have Hab := Lib.hid hab; clear hab
        go_wp2
        go_ret
        exact ⟨ret_bool Hab.out.symm, hx⟩
  · have t1 : ((a.length : Int) != (b.length : Int)) = true := by simp [bne_iff_ne]; omega
    have hab : decide (a = b) = false := by
      rw [decide_eq_false_iff_not]; rintro rfl; exact hne rfl
    have Hab := Lib.hid hab; clear hab
    clear hne
    go_enter Try.func40, Try.ntmps40
    go_wp2
    go_ret
    exact ⟨ret_bool Hab.out.symm, Ext.refl _⟩
set_option maxHeartbeats 400000 in
theorem l_szLinkS (l : List Lnk) (v : Value) (left : Int) (w : World) (hv : RdS Lnk.rep w v l) (h0 : 0 ≤ left) (h1 : left ≤ 1048576) :
    Calls Try.prog 26 #[v, .int .i64 left] w fun e w' => e = .returned (.int .i64 (szL left l.length)) ∧ Ext w w' := by
  obtain ⟨o, cap, rfl, hsm⟩ := hv.shape
  by_cases hlt : left - l.length < 0
  · have hz : szL left l.length = -1 := by unfold szL; rw [if_pos hlt]
    rw [hz]
    go_enter Try.func26, Try.ntmps26
    go_wp2
    go_ret
    exact ⟨rfl, Ext.refl _⟩
  · have hz : szL left l.length = left - l.length := by unfold szL; rw [if_neg hlt]
    rw [hz]
    go_enter Try.func26, Try.ntmps26
    go_wp2
    go_ret
    exact ⟨rfl, Ext.refl _⟩
end
section
open Go.ChangeShapes Go.WideShapes Go.ChangeAt Go.RowKit Go.Deep
set_option maxHeartbeats 400000 in
theorem l_szTopology (x : Topo) (v1 v2 : Value) (left : Int) (w : World) (r1 : RdS ASd.rep w v1 x.ases) (r2 : RdS Lnk.rep w v2 x.links) (h0 : 0 ≤ left) (h1 : left ≤ 1048576) :
    Calls Try.prog 5 #[.agg #[v1, v2], .int .i64 left] w fun e w' => e = .returned (.int .i64 (szL left x.size)) ∧ Ext w w' := by
  go_enter Try.func5, Try.ntmps5
  have hx0 : Ext w (w.alloc (.cells #[v1, v2] 25)) := (Ext.refl _).alloc _
  have hB := blk_new w (.cells #[v1, v2] 25)
  have HB := Lib.hid hB; clear hB
  go_wp2_with fail
  refine (l_szASS x.ases _ _ _ (r1.ext hx0) h0 h1).mono ?_
  rintro e w1 ⟨rfl, k1⟩
  have hx1 := hx0.trans k1
  by_cases hlt : left - x.ases.length < 0
  · have hz : szL left x.size = -1 := by unfold szL Topo.size; rw [if_pos (by omega)]
    have hz1 : szL left x.ases.length = -1 := by unfold szL; rw [if_pos hlt]
    rw [hz1]
    have HZ := Lib.hid hz; clear hz hz1
    go_wp2_with fail
    go_ret
    exact ⟨ret_int HZ.out.symm, hx1⟩
  · have hz : szL (left - x.ases.length) x.links.length = szL left x.size := szL_addT hlt
    have hz1 : szL left x.ases.length = left - x.ases.length := by unfold szL; rw [if_neg hlt]
    rw [hz1]
    have HZ := Lib.hid hz; clear hz hz1
    have hc1 := blk2 (k1.block HB.out)
    have hl0 : 0 ≤ left - x.ases.length := by omega
    have hl1 : left - x.ases.length ≤ 1048576 := by omega
    go_wp2_with fail
    refine (l_szLinkS x.links _ _ _ (r2.ext hx1) hl0 hl1).mono ?_
    rintro e w2 ⟨rfl, k2⟩
    by_cases hlt2 : left - x.ases.length - x.links.length < 0
    · have hz1 : szL (left - x.ases.length) x.links.length = -1 := by unfold szL; rw [if_pos hlt2]
      have HZ2 := Lib.hid (hz1.symm.trans HZ.out)
      rw [hz1]
      clear hz1
      go_wp2_with fail
      go_ret
      exact ⟨ret_int HZ2.out, hx1.trans k2⟩
    · have hz1 : szL (left - x.ases.length) x.links.length = left - x.ases.length - x.links.length := by unfold szL; rw [if_neg hlt2]
      have HZ2 := Lib.hid (hz1.symm.trans HZ.out)
      rw [hz1]
      clear hz1
      go_wp2_with fail
      go_ret
      exact ⟨ret_int HZ2.out, hx1.trans k2⟩
set_option maxHeartbeats 1000000 in
theorem l_toTopology (x : Topo) (v1 v2 : Value) (w : World) (r1 : RdS ASd.rep w v1 x.ases) (r2 : RdS Lnk.rep w v2 x.links) (hl : x.size ≤ 1048576) :
    Calls Try.prog 8 #[.agg #[v1, v2]] w fun e w' => ∃ u1 u2, e = .returned (.agg #[u1, u2]) ∧ OwnF ASd.f 3 w.heap.size 118 w' u1 x.ases ∧ OwnF Lnk.f 5 w.heap.size 122 w' u2 x.links ∧ Ext w w' := by
  unfold Topo.size at hl
  go_enter Try.func8, Try.ntmps8
  go_wp2_with fail
  refine (l_toASS x.ases _ _ (r1.ext (by repeat (first | exact Ext.refl _ | apply Ext.alloc | (refine Ext.setCell ?_ (by simp) _)))) (by omega)).mono ?_
  rintro e w1 ⟨u1, rfl, o1, k1⟩
  obtain ⟨oo1, cc1, rfl, _⟩ := (OwnF.rd (hf := ASd.flen) o1).shape
  have hb0 := k1.block (al3 w _ _ _).1
  have hb1 := k1.block (al3 w _ _ _).2.1
  have hb2 := k1.block (al3 w _ _ _).2.2
  have hx1 := (ext3 w _ _ _).trans k1
  have hs1 := k1.size
  simp only [nblk_alloc] at hs1
  have hc0 := blk2 hb0
  have hc2 := blk2 hb2
  have f2 := fr_of hb2 0
  have q2 := blk_set hb2 0 (.slice oo1 x.ases.length cc1)
  have q1 := blk_set_ne hb1 (show w.heap.size + 1 + 1 ≠ w.heap.size + 1 by omega) 0 (.slice oo1 x.ases.length cc1)
  have q0 := blk_set_ne hb0 (show w.heap.size + 1 + 1 ≠ w.heap.size by omega) 0 (.slice oo1 x.ases.length cc1)
  have O1 := Lib.hid (OwnF.set o1 (p := ⟨w.heap.size + 1 + 1, 0, none⟩) (by simp) (.slice oo1 x.ases.length cc1))
  have HX := Lib.hid (hx1.setCell (p := ⟨w.heap.size + 1 + 1, 0, none⟩) (by simp; omega) (.slice oo1 x.ases.length cc1))
  have Q0 := Lib.hid q0; have Q1 := Lib.hid q1; have Q2 := Lib.hid q2
  clear q0 q1 q2 hb0 hb1 hb2 o1 hx1
  go_wp2_with fail
  refine (l_toLinkS x.links _ _ (r2.ext HX.out) (by omega)).mono ?_
  rintro e w2 ⟨u2, rfl, o2, k2⟩
  obtain ⟨oo2, cc2, rfl, _⟩ := (OwnF.rd (hf := Lnk.flen) o2).shape
  have b1 := k2.block Q1.out
  have b2 := k2.block Q2.out
  simp only [List.setIfInBounds_toArray, List.set_cons_zero] at b2
  have hs2 := k2.size
  have hs3 : w.heap.size + 1 + 1 < w2.heap.size := blk_lt b2
  have c1 := blk2 b1
  have c2 := blk2 b2
  have g1 := fr_of b1 0
  have g11 := fr_of b1 1
  have g2 := fr_of b2 1
  clear b1 b2
  go_wp2_with fail
  refine bodyPost_ret (v := .agg #[.slice oo1 x.ases.length cc1, .slice oo2 x.links.length cc2]) (by simp [results, Try.results8, go_sem, c1]) rfl ⟨_, _, rfl, ?_, ?_, ?_⟩
  · exact ((((O1.out.ext k2).set (by simp) _).set (by simp) _).set (by simp) _).mono (by simp; omega)
  · exact (((o2.set (by simp; omega) _).set (by simp; omega) _).set (by simp; omega) _).mono (by simp; omega)
  · exact (((HX.out.trans k2).setCell (by simp; omega) _).setCell (by simp) _).setCell (by simp) _
set_option maxHeartbeats 1000000 in
theorem l_eqTopology (x y : Topo) (v1 v2 u1 u2 : Value) (w : World) (r1 : RdS ASd.rep w v1 x.ases) (r2 : RdS Lnk.rep w v2 x.links) (s1 : RdS ASd.rep w u1 y.ases) (s2 : RdS Lnk.rep w u2 y.links) :
    Calls Try.prog 11 #[.agg #[v1, v2], .agg #[u1, u2]] w fun e w' => e = .returned (.bool (decide (x = y))) ∧ Ext w w' := by
  have heq : decide (x = y) = (decide (x.ases = y.ases) && decide (x.links = y.links)) := by
    cases x; cases y; simp only [Topo.mk.injEq, Bool.decide_and]
  have HEQ := Lib.hid heq; clear heq
  go_enter Try.func11, Try.ntmps11
  have hx0 := ext2 w (.cells #[v1, v2] 41) (.cells #[u1, u2] 41)
  have hB := al2 w (.cells #[v1, v2] 41) (.cells #[u1, u2] 41)
  have HB := Lib.hid hB; clear hB
  go_wp2_with fail
  refine (l_eqASS x.ases y.ases _ _ _ (r1.ext hx0) (s1.ext hx0)).mono ?_
  rintro e w1 ⟨rfl, k1⟩
  have hx1 := hx0.trans k1
  have c0 := blk2 (k1.block HB.out.1)
  have c1 := blk2 (k1.block HB.out.2)
  cases hr : decide (x.ases = y.ases)
  · rw [hr] at HEQ
    go_wp2_with fail
    go_ret
    exact ⟨ret_bool HEQ.out.symm, hx1⟩
  · rw [hr] at HEQ
    go_wp2_with fail
    refine (l_eqLinkS x.links y.links _ _ _ (r2.ext hx1) (s2.ext hx1)).mono ?_
    rintro e w2 ⟨rfl, k2⟩
    cases hu : decide (x.links = y.links)
    · rw [hu] at HEQ
      go_wp2_with fail
      go_ret
      exact ⟨ret_bool HEQ.out.symm, hx1.trans k2⟩
    · rw [hu] at HEQ
      go_wp2_with fail
      go_ret
      exact ⟨ret_bool HEQ.out.symm, hx1.trans k2⟩
end
end Go.Proofs.Ytcpfmhgfaliemaa
