/- What these laws need: FnExactFormatTrace: Slices of uint8: how they read, and the contracts of the laws' helper functions over them. The data of packets, how they read, what they own, and the contracts of the laws' helper functions over them. The data of traces, how they read, what they own, and the contracts of the laws' helper functions over them. Ownership of a topology and its marks. -/
import Derived.Test.YtcpfmhgfaliemaaKN8
namespace Go.Proofs.Ytcpfmhgfaliemaa
section
open Go.ChangeShapes Go.WideShapes Go.ChangeAt Go.RowKit Go.Deep
set_option maxHeartbeats 400000 in
theorem l_toByteS (l : List Int) (v : Value) (w : World) (hv : RdS Rep.byte w v l) (hl : l.length ≤ 1048576) :
    Calls Try.prog 75 #[v] w fun e w' => ∃ v', e = .returned v' ∧ OwnF byteF 1 w.heap.size 5 w' v' l ∧ Ext w w' := by
  obtain ⟨o, cap, rfl, hsm⟩ := hv.shape
  obtain ⟨i0, hi, hz0, hz1, hz2⟩ := info_parts Try.infoByte
  have Hi := Lib.hid hi; clear hi
  go_enter Try.func75, Try.ntmps75
  go_wp2_with (with_reducible refine wpList_make_full _ rfl _ _ 30 rfl w.heap.size 5 i0 _ 1 Try.underlying30 Hi.out hz0 hz1 .i64 .i64 _ _ l.length rfl rfl rfl rfl ?_ ?_ ?_ ?_)
  · rw [hz2]; omega
  · unfold maxLen; omega
  · exact Nat.le_refl _
  intro w1 hown hg
  have hx1 : Ext w w1 := (Ext.refl w).grownNone hg
  have hown1 : OwnF byteF 1 w.heap.size 5 w1 (.slice (some ⟨w.heap.size, 0, none⟩) l.length l.length) (List.replicate l.length 0) := by
    have := madeCells_flat byteFlen (by decide) 0 l.length
    rw [Nat.mul_one] at this
    unfold OwnF
    rw [← this, List.length_replicate]
    exact hown
  clear hown hg
  go_wp2
  go_loopw [4] (fun i wr => ∃ (k : Nat) (xs : List Int), k ≤ l.length ∧ i = .int .i64 k ∧ xs.length = l.length ∧ OwnF byteF 1 w.heap.size 5 wr (.slice (some ⟨w.heap.size, 0, none⟩) l.length l.length) xs ∧ xs.take k = l.take k ∧ Ext w wr) (fun i _ => l.length - (intOf i).toNat)
  case atStart => exact ⟨0, _, Nat.zero_le _, rfl, by simp, hown1, rfl, hx1⟩
  case round =>
    obtain ⟨k, xs, hk, rfl, hxl, hown, htk, hx⟩ := hrel
    have Htk := Lib.hid htk; clear htk
    have Hxl := Lib.hid hxl; clear hxl
    by_cases hlt : k < l.length
    · obtain ⟨b, off, rfl, hcc⟩ := bytes_at (hv.ext hx) k hlt
      have hcs := bytes_own_at hown k (by rw [Hxl.out]; exact hlt)
      have f0 := hown.free k
      obtain ⟨ho3, hg3⟩ := bytes_own_set hown k l[k]
      have hx3 := hx.grown hg3 (fun _ e => by cases e; exact Nat.le_refl _)
      go_wp2_with fail
      all_goals
        go_roundw
        case rel => exact ⟨k + 1, _, by omega, by go_num, by simpa using Hxl.out, ho3, take_set_snoc Htk.out Hxl.out hlt, hx3⟩
        case measure => simp [intOf]; omega
    · go_wp2
      go_ret
      refine ⟨_, rfl, ?_, hx⟩
      obtain rfl : xs = l := by
        have := Htk.out
        rwa [List.take_of_length_le (by rw [Hxl.out]; omega), List.take_of_length_le (by omega)] at this
      exact hown
set_option maxHeartbeats 400000 in
theorem l_eqByteS (a b : List Int) (va vb : Value) (w : World) (ha : RdS Rep.byte w va a) (hb : RdS Rep.byte w vb b) :
    Calls Try.prog 82 #[va, vb] w fun e w' => e = .returned (.bool (decide (a = b))) ∧ Ext w w' := by
  obtain ⟨oa, ca, rfl, hsa⟩ := ha.shape
  obtain ⟨ob, cb, rfl, hsb⟩ := hb.shape
  by_cases hne : a.length = b.length
  · have Hne := Lib.hid hne
    have t1 : ((a.length : Int) != (b.length : Int)) = false := by simp [hne]
    clear hne
    go_enter Try.func82, Try.ntmps82
    go_wp2
    go_loopw [5] (fun i wr => ∃ (k : Nat), k ≤ a.length ∧ i = .int .i64 k ∧ a.take k = b.take k ∧ Ext w wr) (fun i _ => a.length - (intOf i).toNat)
    case atStart => exact ⟨0, Nat.zero_le _, rfl, rfl, Ext.refl _⟩
    case round =>
      obtain ⟨k, hk, rfl, htk, hx⟩ := hrel
      have Htk := Lib.hid htk; clear htk
      by_cases hlt : k < a.length
      · have hlb : k < b.length := by rw [← Hne.out]; exact hlt
        obtain ⟨b1, off1, rfl, hc1⟩ := bytes_at (ha.ext hx) k hlt
        obtain ⟨b2, off2, rfl, hc2⟩ := bytes_at (hb.ext hx) k hlb
        obtain ⟨x, hxa⟩ : ∃ x, a[k] = x := ⟨_, rfl⟩
        obtain ⟨y, hyb⟩ : ∃ y, b[k] = y := ⟨_, rfl⟩
        rw [hxa] at hc1
        rw [hyb] at hc2
        have Hxa := Lib.hid hxa; clear hxa
        have Hyb := Lib.hid hyb; clear hyb
        go_wp2
        go_quiet (fail)
        go_wp2_with fail
        · have hxy : (x != y) = true := by assumption
          go_ret
          refine ⟨ret_bool (Eq.symm (decide_eq_false ?_)), hx.drewN _⟩
          rintro rfl
          rw [← Hxa.out, ← Hyb.out] at hxy
          simp at hxy
        · have hxy : (x != y) = false := by assumption
          exact ⟨⟨k + 1, by omega, by go_num, take_snoc2 Htk.out hlt hlb (Hxa.out.trans (Eq.trans (by simpa using hxy) Hyb.out.symm)), hx.drewN _⟩, by simp [intOf]; omega⟩
      · have hab : decide (a = b) = true := by
          have := Htk.out
          rw [List.take_of_length_le (by omega), List.take_of_length_le (by rw [← Hne.out]; omega)] at this
          simp [this]
        have Hab := Lib.hid hab; clear hab
        go_wp2
        go_ret
        exact ⟨ret_bool Hab.out.symm, hx⟩
  · have t1 : ((a.length : Int) != (b.length : Int)) = true := by simp [bne_iff_ne]; omega
    have hab : decide (a = b) = false := by
      rw [decide_eq_false_iff_not]; rintro rfl; exact hne rfl
    have Hab := Lib.hid hab; clear hab
    clear hne
    go_enter Try.func82, Try.ntmps82
    go_wp2
    go_ret
    exact ⟨ret_bool Hab.out.symm, Ext.refl _⟩
set_option maxHeartbeats 400000 in
theorem l_szByteS (l : List Int) (v : Value) (left : Int) (w : World) (hv : RdS Rep.byte w v l) (h0 : 0 ≤ left) (h1 : left ≤ 1048576) :
    Calls Try.prog 68 #[v, .int .i64 left] w fun e w' => e = .returned (.int .i64 (szL left l.length)) ∧ Ext w w' := by
  obtain ⟨o, cap, rfl, hsm⟩ := hv.shape
  by_cases hlt : left - l.length < 0
  · have hz : szL left l.length = -1 := by unfold szL; rw [if_pos hlt]
    rw [hz]
    go_enter Try.func68, Try.ntmps68
    go_wp2
    go_ret
    exact ⟨rfl, Ext.refl _⟩
  · have hz : szL left l.length = left - l.length := by unfold szL; rw [if_neg hlt]
    rw [hz]
    go_enter Try.func68, Try.ntmps68
    go_wp2
    go_ret
    exact ⟨rfl, Ext.refl _⟩
end
section
open Go.ChangeShapes Go.WideShapes Go.ChangeAt Go.RowKit Go.Deep
set_option maxHeartbeats 1000000 in
theorem l_szPacket (x : Pkt) (v0 v1 : Value) (left : Int) (w : World) (r0 : RdS Part.rep w v0 x.path.parts) (r1 : RdS Rep.byte w v1 x.pay) (h0 : 0 ≤ left) (h1 : left ≤ 1048576) :
    Calls Try.prog 28 #[.agg #[.int .i64 x.kind, .int .i64 x.src, .int .i64 x.dst, v0, .int .i64 x.pi, .int .i64 x.hi, .int .i64 x.beta, .int .i64 x.rid, .int .i64 x.seq, v1], .int .i64 left] w fun e w' => e = .returned (.int .i64 (szL left x.size)) ∧ Ext w w' := by
  go_enter Try.func28, Try.ntmps28
  have hx0 : Ext w (w.alloc (.cells #[.int .i64 x.kind, .int .i64 x.src, .int .i64 x.dst, v0, .int .i64 x.pi, .int .i64 x.hi, .int .i64 x.beta, .int .i64 x.rid, .int .i64 x.seq, v1] 32)) := (Ext.refl _).alloc _
  have hB := blk_new w (.cells #[.int .i64 x.kind, .int .i64 x.src, .int .i64 x.dst, v0, .int .i64 x.pi, .int .i64 x.hi, .int .i64 x.beta, .int .i64 x.rid, .int .i64 x.seq, v1] 32)
  have HB := Lib.hid hB; clear hB
  go_wp2_with fail
  refine (l_szPath x.path _ _ _ (r0.ext hx0) h0 h1).mono ?_
  rintro e w1 ⟨rfl, k1⟩
  have hx1 := hx0.trans k1
  by_cases hlt : left - x.path.size < 0
  · have hz : szL left x.size = -1 := by unfold szL Pkt.size; rw [if_pos (by omega)]
    have hz1 : szL left x.path.size = -1 := by unfold szL; rw [if_pos hlt]
    rw [hz1]
    have HZ := Lib.hid hz; clear hz hz1
    go_wp2_with fail
    go_ret
    exact ⟨ret_int HZ.out.symm, hx1⟩
  · have hz : szL (left - x.path.size) x.pay.length = szL left x.size := szL_add' hlt
    have hz1 : szL left x.path.size = left - x.path.size := by unfold szL; rw [if_neg hlt]
    rw [hz1]
    have HZ := Lib.hid hz; clear hz hz1
    have hc1 := blk10 (k1.block HB.out)
    have hl0 : 0 ≤ left - x.path.size := by omega
    have hl1 : left - x.path.size ≤ 1048576 := by omega
    go_wp2_with fail
    refine (l_szByteS x.pay _ _ _ (r1.ext hx1) hl0 hl1).mono ?_
    rintro e w2 ⟨rfl, k2⟩
    by_cases hlt2 : left - x.path.size - x.pay.length < 0
    · have hz1 : szL (left - x.path.size) x.pay.length = -1 := by unfold szL; rw [if_pos hlt2]
      have HZ2 := Lib.hid (hz1.symm.trans HZ.out)
      rw [hz1]
      clear hz1
      go_wp2_with fail
      go_ret
      exact ⟨ret_int HZ2.out, hx1.trans k2⟩
    · have hz1 : szL (left - x.path.size) x.pay.length = left - x.path.size - x.pay.length := by unfold szL; rw [if_neg hlt2]
      have HZ2 := Lib.hid (hz1.symm.trans HZ.out)
      rw [hz1]
      clear hz1
      go_wp2_with fail
      go_ret
      exact ⟨ret_int HZ2.out, hx1.trans k2⟩
set_option maxRecDepth 100000 in
set_option maxHeartbeats 4000000 in
theorem l_toPacket (x : Pkt) (v0 v1 : Value) (w : World) (r0 : RdS Part.rep w v0 x.path.parts) (r1 : RdS Rep.byte w v1 x.pay) (hl : x.size ≤ 1048576) :
    Calls Try.prog 35 #[.agg #[.int .i64 x.kind, .int .i64 x.src, .int .i64 x.dst, v0, .int .i64 x.pi, .int .i64 x.hi, .int .i64 x.beta, .int .i64 x.rid, .int .i64 x.seq, v1]] w fun e w' => ∃ u0 u1, e = .returned (.agg #[.int .i64 x.kind, .int .i64 x.src, .int .i64 x.dst, u0, .int .i64 x.pi, .int .i64 x.hi, .int .i64 x.beta, .int .i64 x.rid, .int .i64 x.seq, u1]) ∧ Pkt.own (rng w.heap.size w'.heap.size) w' u0 u1 x ∧ Ext w w' := by
  unfold Pkt.size at hl
  go_enter Try.func35, Try.ntmps35
  go_wp2_with fail
  refine (l_toPath x.path _ _ (r0.ext (by repeat (first | exact Ext.refl _ | apply Ext.alloc | (refine Ext.setCell ?_ (by simp) _)))) (by omega)).mono ?_
  rintro e w1 ⟨u1, rfl, o1, k1⟩
  obtain ⟨oo1, cc1, rfl, _⟩ := (Part.ord o1).shape
  have hb0 := k1.block (al3 w _ _ _).1
  have hb1 := k1.block (al3 w _ _ _).2.1
  have hb2 := k1.block (al3 w _ _ _).2.2
  have hx1 := (ext3 w _ _ _).trans k1
  have hs1 := k1.size
  simp only [nblk_alloc] at hs1 o1
  have key : ∃ w2, w2 = ((((((w1.setCell ⟨w.heap.size + 1 + 1, 3, none⟩ (.slice oo1 x.path.parts.length cc1)).setCell ⟨w.heap.size + 1 + 1, 4, none⟩ (.int .i64 x.pi)).setCell ⟨w.heap.size + 1 + 1, 5, none⟩ (.int .i64 x.hi)).setCell ⟨w.heap.size + 1 + 1, 6, none⟩ (.int .i64 x.beta)).setCell ⟨w.heap.size + 1 + 1, 7, none⟩ (.int .i64 x.rid)).setCell ⟨w.heap.size + 1 + 1, 8, none⟩ (.int .i64 x.seq)) ∧ w2.heap[w.heap.size]? = some (.cells #[.int .i64 x.kind, .int .i64 x.src, .int .i64 x.dst, v0, .int .i64 x.pi, .int .i64 x.hi, .int .i64 x.beta, .int .i64 x.rid, .int .i64 x.seq, v1] 32) ∧ w2.heap[w.heap.size + 1]? = some (.cells #[.int .i64 0, .int .i64 0, .int .i64 0, .slice none 0 0, .int .i64 0, .int .i64 0, .int .i64 0, .int .i64 0, .int .i64 0, .slice none 0 0] 48) ∧ w2.heap[w.heap.size + 1 + 1]? = some (.cells #[.int .i64 x.kind, .int .i64 x.src, .int .i64 x.dst, .slice oo1 x.path.parts.length cc1, .int .i64 x.pi, .int .i64 x.hi, .int .i64 x.beta, .int .i64 x.rid, .int .i64 x.seq, .slice none 0 0] 48) ∧ Part.own.own (rng (w.heap.size + 1 + 1 + 1) w1.heap.size) w2 (.slice oo1 x.path.parts.length cc1) x.path.parts ∧ Ext w w2 ∧ w2.heap.size = w1.heap.size := by
    refine ⟨_, rfl, ?_, ?_, ?_, ?_, ?_, ?_⟩
    · have q (o : Nat) (u : Value) {wq : World} (h : wq.heap[w.heap.size]? = some (.cells #[.int .i64 x.kind, .int .i64 x.src, .int .i64 x.dst, v0, .int .i64 x.pi, .int .i64 x.hi, .int .i64 x.beta, .int .i64 x.rid, .int .i64 x.seq, v1] 32)) := blk_set_ne h (show w.heap.size + 1 + 1 ≠ w.heap.size by omega) o u
      exact q _ _ (q _ _ (q _ _ (q _ _ (q _ _ (q _ _ hb0)))))
    · have q (o : Nat) (u : Value) {wq : World} (h : wq.heap[w.heap.size + 1]? = some (.cells #[.int .i64 0, .int .i64 0, .int .i64 0, .slice none 0 0, .int .i64 0, .int .i64 0, .int .i64 0, .int .i64 0, .int .i64 0, .slice none 0 0] 48)) := blk_set_ne h (show w.heap.size + 1 + 1 ≠ w.heap.size + 1 by omega) o u
      exact q _ _ (q _ _ (q _ _ (q _ _ (q _ _ (q _ _ hb1)))))
    · have := blk_set (blk_set (blk_set (blk_set (blk_set (blk_set hb2 3 (.slice oo1 x.path.parts.length cc1)) 4 (.int .i64 x.pi)) 5 (.int .i64 x.hi)) 6 (.int .i64 x.beta)) 7 (.int .i64 x.rid)) 8 (.int .i64 x.seq)
      simpa using this
    · have q (o : Nat) (u : Value) {wq : World} (h : Chg (fun b => b = w.heap.size + 1 + 1) w1 wq) := Chg.setCell (p := ⟨w.heap.size + 1 + 1, o, none⟩) h rfl u
      exact Part.own.kept o1 (q _ _ (q _ _ (q _ _ (q _ _ (q _ _ (q _ _ (Chg.refl _ w1))))))) (fun b hb e => by have := hb.1; omega)
    · have q (o : Nat) (u : Value) {wq : World} (h : Ext w wq) := Ext.setCell (p := ⟨w.heap.size + 1 + 1, o, none⟩) h (show w.heap.size ≤ w.heap.size + 1 + 1 by omega) u
      exact q _ _ (q _ _ (q _ _ (q _ _ (q _ _ (q _ _ hx1)))))
    · simp
  obtain ⟨w2, hw2, B0, B1, B2, o1', hx2, hsz⟩ := key
  have HW := Lib.hid hw2; have HB0 := Lib.hid B0; have HB1 := Lib.hid B1; have HB2 := Lib.hid B2
  clear hw2 B0 B1 B2 o1
  have hc0 := blk10 hb0
  have hc2 := blk10 hb2
  have f3 := fr_of hb2 3
  have f4 := fr_of hb2 4
  have f5 := fr_of hb2 5
  have f6 := fr_of hb2 6
  have f7 := fr_of hb2 7
  have f8 := fr_of hb2 8
  clear hb0 hb1 hb2 hx1
  go_wp2_with fail
  rw [← HW.out]
  refine (l_toByteS x.pay _ _ (r1.ext hx2) (by omega)).mono ?_
  rintro e w3 ⟨u2, rfl, o2, k2⟩
  clear hc0 hc2 f3 f4 f5 f6 f7 f8
  obtain ⟨oo2, cc2, rfl, _⟩ := (OwnF.rd (hf := byteFlen) o2).shape
  have b1 := k2.block HB1.out
  have b2 := k2.block HB2.out
  have hs3 : w.heap.size + 1 + 1 < w2.heap.size := blk_lt HB2.out
  have hs4 := k2.size
  have c1 := blk10 b1
  have c2 := blk10 b2
  have g0 := fr_of b1 0
  have g1 := fr_of b1 1
  have g2 := fr_of b1 2
  have g3 := fr_of b1 3
  have g4 := fr_of b1 4
  have g5 := fr_of b1 5
  have g6 := fr_of b1 6
  have g7 := fr_of b1 7
  have g8 := fr_of b1 8
  have g9 := fr_of b1 9
  have gg := fr_of b2 9
  have o1q := Own.ext o1' k2
  have o2q := Own.ofF (hf := byteFlen) o2
  clear b1 b2 o1' o2
  go_wp2_with fail
  refine bodyPost_ret (v := .agg #[.int .i64 x.kind, .int .i64 x.src, .int .i64 x.dst, .slice oo1 x.path.parts.length cc1, .int .i64 x.pi, .int .i64 x.hi, .int .i64 x.beta, .int .i64 x.rid, .int .i64 x.seq, .slice oo2 x.pay.length cc2]) (by simp [results, Try.results35, go_sem, c1]) rfl ⟨_, _, rfl, ⟨_, _, Part.own.kept (T := fun b => b < w.heap.size + 1 + 1 + 1) o1q ?_ (fun b hb e => by have := hb.1; omega), byteOwn.kept (T := fun b => b < w.heap.size + 1 + 1 + 1) o2q ?_ (fun b hb e => by have := hb.1; omega), ?_, ?_, ?_⟩, ?_⟩
  · have q (b : Nat) (hb : b < w.heap.size + 1 + 1 + 1) (o : Nat) (u : Value) {wq : World} (h : Chg (fun b => b < w.heap.size + 1 + 1 + 1) w3 wq) := Chg.setCell (p := ⟨b, o, none⟩) h hb u
    exact q _ (by omega) _ _ (q _ (by omega) _ _ (q _ (by omega) _ _ (q _ (by omega) _ _ (q _ (by omega) _ _ (q _ (by omega) _ _ (q _ (by omega) _ _ (q _ (by omega) _ _ (q _ (by omega) _ _ (q _ (by omega) _ _ (q _ (by omega) _ _ (Chg.refl _ w3)))))))))))
  · have q (b : Nat) (hb : b < w.heap.size + 1 + 1 + 1) (o : Nat) (u : Value) {wq : World} (h : Chg (fun b => b < w.heap.size + 1 + 1 + 1) w3 wq) := Chg.setCell (p := ⟨b, o, none⟩) h hb u
    exact q _ (by omega) _ _ (q _ (by omega) _ _ (q _ (by omega) _ _ (q _ (by omega) _ _ (q _ (by omega) _ _ (q _ (by omega) _ _ (q _ (by omega) _ _ (q _ (by omega) _ _ (q _ (by omega) _ _ (q _ (by omega) _ _ (q _ (by omega) _ _ (Chg.refl _ w3)))))))))))
  · intro b hb
    have h1 := hb.1; have h2 := hb.2
    refine ⟨by omega, ?_⟩
    simp
    omega
  · intro b hb
    have h1 := hb.1; have h2 := hb.2
    refine ⟨by omega, ?_⟩
    simp
    omega
  · intro b hb h2
    have h3 := hb.2; have h4 := h2.1
    omega
  · have hx3 := hx2.trans k2
    have q (b : Nat) (hb : w.heap.size ≤ b) (o : Nat) (u : Value) {wq : World} (h : Ext w wq) := Ext.setCell (p := ⟨b, o, none⟩) h hb u
    exact q _ (by omega) _ _ (q _ (by omega) _ _ (q _ (by omega) _ _ (q _ (by omega) _ _ (q _ (by omega) _ _ (q _ (by omega) _ _ (q _ (by omega) _ _ (q _ (by omega) _ _ (q _ (by omega) _ _ (q _ (by omega) _ _ (q _ (by omega) _ _ hx3))))))))))
set_option maxHeartbeats 4000000 in
theorem l_eqPacket (x y : Pkt) (v0 v1 u0 u1 : Value) (w : World) (r0 : RdS Part.rep w v0 x.path.parts) (r1 : RdS Rep.byte w v1 x.pay) (s0 : RdS Part.rep w u0 y.path.parts) (s1 : RdS Rep.byte w u1 y.pay) :
    Calls Try.prog 42 #[.agg #[.int .i64 x.kind, .int .i64 x.src, .int .i64 x.dst, v0, .int .i64 x.pi, .int .i64 x.hi, .int .i64 x.beta, .int .i64 x.rid, .int .i64 x.seq, v1], .agg #[.int .i64 y.kind, .int .i64 y.src, .int .i64 y.dst, u0, .int .i64 y.pi, .int .i64 y.hi, .int .i64 y.beta, .int .i64 y.rid, .int .i64 y.seq, u1]] w fun e w' => e = .returned (.bool (decide (x = y))) ∧ Ext w w' := by
  have heq : decide (x = y) = (!(x.kind != y.kind) && (!(x.src != y.src) && (!(x.dst != y.dst) && (decide (x.path = y.path) && (!(x.pi != y.pi) && (!(x.hi != y.hi) && (!(x.beta != y.beta) && (!(x.rid != y.rid) && (!(x.seq != y.seq) && decide (x.pay = y.pay)))))))))) := by
    cases x; cases y; simp only [nbne, Pkt.mk.injEq, Bool.decide_and]
  have HEQ := Lib.hid heq; clear heq
  go_enter Try.func42, Try.ntmps42
  have hx0 := ext2 w (.cells #[.int .i64 x.kind, .int .i64 x.src, .int .i64 x.dst, v0, .int .i64 x.pi, .int .i64 x.hi, .int .i64 x.beta, .int .i64 x.rid, .int .i64 x.seq, v1] 48) (.cells #[.int .i64 y.kind, .int .i64 y.src, .int .i64 y.dst, u0, .int .i64 y.pi, .int .i64 y.hi, .int .i64 y.beta, .int .i64 y.rid, .int .i64 y.seq, u1] 48)
  have hB := al2 w (.cells #[.int .i64 x.kind, .int .i64 x.src, .int .i64 x.dst, v0, .int .i64 x.pi, .int .i64 x.hi, .int .i64 x.beta, .int .i64 x.rid, .int .i64 x.seq, v1] 48) (.cells #[.int .i64 y.kind, .int .i64 y.src, .int .i64 y.dst, u0, .int .i64 y.pi, .int .i64 y.hi, .int .i64 y.beta, .int .i64 y.rid, .int .i64 y.seq, u1] 48)
  have HB := Lib.hid hB; clear hB
  cases hc0 : (x.kind != y.kind)
  · cases hc1 : (x.src != y.src)
    · cases hc2 : (x.dst != y.dst)
      · rw [hc0, hc1, hc2] at HEQ
        go_wp2_with fail
        refine (l_eqPath x.path y.path _ _ _ (r0.ext hx0) (s0.ext hx0)).mono ?_
        rintro e w1 ⟨rfl, k1⟩
        have hx1 := hx0.trans k1
        have c0 := blk10 (k1.block HB.out.1)
        have c1 := blk10 (k1.block HB.out.2)
        cases hr : decide (x.path = y.path)
        · rw [hr] at HEQ
          go_wp2_with fail
          go_ret
          exact ⟨ret_bool HEQ.out.symm, hx1⟩
        · rw [hr] at HEQ
          cases hc4 : (x.pi != y.pi)
          · cases hc5 : (x.hi != y.hi)
            · cases hc6 : (x.beta != y.beta)
              · cases hc7 : (x.rid != y.rid)
                · cases hc8 : (x.seq != y.seq)
                  · rw [hc4, hc5, hc6, hc7, hc8] at HEQ
                    go_wp2_with fail
                    refine (l_eqByteS x.pay y.pay _ _ _ (r1.ext hx1) (s1.ext hx1)).mono ?_
                    rintro e w2 ⟨rfl, k2⟩
                    cases hu : decide (x.pay = y.pay)
                    · rw [hu] at HEQ
                      go_wp2_with fail
                      go_ret
                      exact ⟨ret_bool HEQ.out.symm, hx1.trans k2⟩
                    · rw [hu] at HEQ
                      go_wp2_with fail
                      go_ret
                      exact ⟨ret_bool HEQ.out.symm, hx1.trans k2⟩
                  · rw [hc4, hc5, hc6, hc7, hc8] at HEQ
                    go_wp2_with fail
                    go_ret
                    exact ⟨ret_bool HEQ.out.symm, hx1⟩
                · rw [hc4, hc5, hc6, hc7] at HEQ
                  go_wp2_with fail
                  go_ret
                  exact ⟨ret_bool HEQ.out.symm, hx1⟩
              · rw [hc4, hc5, hc6] at HEQ
                go_wp2_with fail
                go_ret
                exact ⟨ret_bool HEQ.out.symm, hx1⟩
            · rw [hc4, hc5] at HEQ
              go_wp2_with fail
              go_ret
              exact ⟨ret_bool HEQ.out.symm, hx1⟩
          · rw [hc4] at HEQ
            go_wp2_with fail
            go_ret
            exact ⟨ret_bool HEQ.out.symm, hx1⟩
      · rw [hc0, hc1, hc2] at HEQ
        go_wp2_with fail
        go_ret
        exact ⟨ret_bool HEQ.out.symm, hx0⟩
    · rw [hc0, hc1] at HEQ
      go_wp2_with fail
      go_ret
      exact ⟨ret_bool HEQ.out.symm, hx0⟩
  · rw [hc0] at HEQ
    go_wp2_with fail
    go_ret
    exact ⟨ret_bool HEQ.out.symm, hx0⟩
end
section
open Go.ChangeShapes Go.WideShapes Go.ChangeAt Go.RowKit Go.Deep
theorem blk12 {w : World} {b : Nat} {x0 x1 x2 x3 x4 x5 x6 x7 x8 x9 x10 x11 : Value} {t : TypeId} {f : Nat × Nat} (h : w.heap[b]? = some (.cells #[x0, x1, x2, x3, x4, x5, x6, x7, x8, x9, x10, x11] t f)) :
    w.cell? ⟨b, 0, none⟩ = some x0 ∧ w.cell? ⟨b, 1, none⟩ = some x1 ∧ w.cell? ⟨b, 2, none⟩ = some x2 ∧ w.cell? ⟨b, 3, none⟩ = some x3 ∧ w.cell? ⟨b, 4, none⟩ = some x4 ∧ w.cell? ⟨b, 5, none⟩ = some x5 ∧ w.cell? ⟨b, 6, none⟩ = some x6 ∧ w.cell? ⟨b, 7, none⟩ = some x7 ∧ w.cell? ⟨b, 8, none⟩ = some x8 ∧ w.cell? ⟨b, 9, none⟩ = some x9 ∧ w.cell? ⟨b, 10, none⟩ = some x10 ∧ w.cell? ⟨b, 11, none⟩ = some x11 :=
  ⟨blk_cell h 0, blk_cell h 1, blk_cell h 2, blk_cell h 3, blk_cell h 4, blk_cell h 5, blk_cell h 6, blk_cell h 7, blk_cell h 8, blk_cell h 9, blk_cell h 10, blk_cell h 11⟩
structure Trc where
  code : Int
  steps : List Step
  pkt : Pkt
  deriving DecidableEq
def Trc.size (x : Trc) : Nat := x.steps.length + x.pkt.size
def Trc.rep : Rep Trc where
  cells := 12
  rd w cs x := ∃ v0 v1 v2, cs = [.int .i64 x.code, v0, .int .i64 x.pkt.kind, .int .i64 x.pkt.src, .int .i64 x.pkt.dst, v1, .int .i64 x.pkt.pi, .int .i64 x.pkt.hi, .int .i64 x.pkt.beta, .int .i64 x.pkt.rid, .int .i64 x.pkt.seq, v2] ∧ RdS Step.rep w v0 x.steps ∧ RdS Part.rep w v1 x.pkt.path.parts ∧ RdS Rep.byte w v2 x.pkt.pay
  len := by rintro w cs a ⟨v0, v1, v2, rfl, _⟩; rfl
  ext := by rintro w w' cs a e ⟨v0, v1, v2, rfl, h0, h1, h2⟩; exact ⟨v0, v1, v2, rfl, h0.ext e, h1.ext e, h2.ext e⟩
def Trc.ok (x : Trc) : Prop := I64 x.code ∧ (∀ y ∈ x.steps, Step.ok y) ∧ x.pkt.ok
set_option maxHeartbeats 1000000 in
theorem Trc.opens : Opens Try.prog 34 Trc.rep Trc.ok := by
  intro H enc w base spare held fuel cs x h
  obtain ⟨xs, n, _, _, hcl, hxl, hf⟩ := DataW.trod_struct Try.underlying34 h
  have hC : Try.prog.cellsOf 34 = 12 := by kernel_rfl
  have hi1 : Try.prog.cellsOf 3 = 1 := by kernel_rfl
  have hi2 : Try.prog.cellsOf 26 = 1 := by kernel_rfl
  have hi3 : Try.prog.cellsOf 32 = 10 := by kernel_rfl
  obtain ⟨c0, c1, cs, rfl⟩ : ∃ c0 c1 cs', cs = c0 :: c1 :: cs' := by
    rcases cs with _ | ⟨c0, _ | ⟨c1, cs'⟩⟩
    · simp [hC] at hcl
    · simp [hC] at hcl
    · exact ⟨_, _, _, rfl⟩
  have hcl2 : cs.length = 10 := by have := hcl.trans hC; simpa using this
  obtain ⟨y0, y1, y2, rfl⟩ := len3 hxl
  have h0 := hf 0 _ rfl
  simp [hi1] at h0
  obtain ⟨n0, r0, k0⟩ := opens_int Try.underlying3 h0
  cases r0
  have h1 := hf 1 _ rfl
  simp [hi2] at h1
  obtain ⟨l1, ⟨v1, e1, r1⟩, k1⟩ := Step.opensS h1
  cases e1
  have h2 := hf 2 _ rfl
  simp [hi3] at h2
  rw [List.take_of_length_le (by omega)] at h2
  obtain ⟨l2, ⟨v2, v3, e2, r2, r3⟩, k2⟩ := Pkt.opens h2
  subst e2
  exact ⟨⟨n0, l1, l2⟩, ⟨_, _, _, rfl, r1, r2, r3⟩, k0, k1, k2⟩
def stepOwn : Own Step := Own.flat Step.f 3 Step.flen 79
/-- What a trace's handles own: sets that share no block. -/
def Trc.own (S : Nat → Prop) (w : World) (h0 h1 h2 : Value) (x : Trc) : Prop :=
  ∃ S0 S1 : Nat → Prop, stepOwn.own S0 w h0 x.steps ∧ Pkt.own S1 w h1 h2 x.pkt ∧ (∀ b, S0 b → S b) ∧ (∀ b, S1 b → S b) ∧ ∀ b, S0 b → ¬ S1 b
theorem Trc.own_kept {S T : Nat → Prop} {w w' : World} {h0 h1 h2 : Value} {x : Trc} (h : Trc.own S w h0 h1 h2 x) (c : Chg T w w') (hs : ∀ b, S b → ¬ T b) : Trc.own S w' h0 h1 h2 x := by
  obtain ⟨S0, S1, a, b, c0, c1, d⟩ := h
  exact ⟨S0, S1, stepOwn.kept a c (fun k hk => hs k (c0 k hk)), Pkt.own_kept b c (fun k hk => hs k (c1 k hk)), c0, c1, d⟩
theorem Trc.own_ext {S : Nat → Prop} {w w' : World} {h0 h1 h2 : Value} {x : Trc} (h : Trc.own S w h0 h1 h2 x) (e : Ext w w') : Trc.own S w' h0 h1 h2 x :=
  Trc.own_kept h (Chg.ofExt (S := noB) e) (fun _ _ h => h)
theorem Trc.own_mono {S T : Nat → Prop} {w : World} {h0 h1 h2 : Value} {x : Trc} (h : Trc.own S w h0 h1 h2 x) (hs : ∀ b, S b → T b) : Trc.own T w h0 h1 h2 x := by
  obtain ⟨S0, S1, a, b, c0, c1, d⟩ := h
  exact ⟨S0, S1, a, b, fun k hk => hs k (c0 k hk), fun k hk => hs k (c1 k hk), d⟩
theorem Trc.own_rd0 {S : Nat → Prop} {w : World} {h0 h1 h2 : Value} {x : Trc} (h : Trc.own S w h0 h1 h2 x) : RdS Step.rep w h0 x.steps := by
  obtain ⟨S0, S1, a, _⟩ := h; exact stepOwn.rd a
theorem Trc.own_rd1 {S : Nat → Prop} {w : World} {h0 h1 h2 : Value} {x : Trc} (h : Trc.own S w h0 h1 h2 x) : RdS Part.rep w h1 x.pkt.path.parts := by
  obtain ⟨S0, S1, _, b, _⟩ := h; exact Pkt.own_rd0 b
theorem Trc.own_rd2 {S : Nat → Prop} {w : World} {h0 h1 h2 : Value} {x : Trc} (h : Trc.own S w h0 h1 h2 x) : RdS Rep.byte w h2 x.pkt.pay := by
  obtain ⟨S0, S1, _, b, _⟩ := h; exact Pkt.own_rd1 b
theorem Trc.own_inb {S : Nat → Prop} {w : World} {h0 h1 h2 : Value} {x : Trc} (h : Trc.own S w h0 h1 h2 x) : Trc.own (fun b => S b ∧ b < w.heap.size) w h0 h1 h2 x := by
  obtain ⟨S0, S1, a, b, c0, c1, d⟩ := h
  exact ⟨_, _, stepOwn.inb a, Pkt.own_inb b, fun k hk => ⟨c0 k hk.1, hk.2⟩, fun k hk => ⟨c1 k hk.1, hk.2⟩, fun k hk h2 => d k hk.1 h2.1⟩
set_option maxHeartbeats 1000000 in
theorem l_szTrace (x : Trc) (v0 v1 v2 : Value) (left : Int) (w : World) (r0 : RdS Step.rep w v0 x.steps) (r1 : RdS Part.rep w v1 x.pkt.path.parts) (r2 : RdS Rep.byte w v2 x.pkt.pay) (h0 : 0 ≤ left) (h1 : left ≤ 1048576) :
    Calls Try.prog 6 #[.agg #[.int .i64 x.code, v0, .int .i64 x.pkt.kind, .int .i64 x.pkt.src, .int .i64 x.pkt.dst, v1, .int .i64 x.pkt.pi, .int .i64 x.pkt.hi, .int .i64 x.pkt.beta, .int .i64 x.pkt.rid, .int .i64 x.pkt.seq, v2], .int .i64 left] w fun e w' => e = .returned (.int .i64 (szL left x.size)) ∧ Ext w w' := by
  go_enter Try.func6, Try.ntmps6
  have hx0 : Ext w (w.alloc (.cells #[.int .i64 x.code, v0, .int .i64 x.pkt.kind, .int .i64 x.pkt.src, .int .i64 x.pkt.dst, v1, .int .i64 x.pkt.pi, .int .i64 x.pkt.hi, .int .i64 x.pkt.beta, .int .i64 x.pkt.rid, .int .i64 x.pkt.seq, v2] 34)) := (Ext.refl _).alloc _
  have hB := blk_new w (.cells #[.int .i64 x.code, v0, .int .i64 x.pkt.kind, .int .i64 x.pkt.src, .int .i64 x.pkt.dst, v1, .int .i64 x.pkt.pi, .int .i64 x.pkt.hi, .int .i64 x.pkt.beta, .int .i64 x.pkt.rid, .int .i64 x.pkt.seq, v2] 34)
  have HB := Lib.hid hB; clear hB
  go_wp2_with fail
  refine (l_szStepS x.steps _ _ _ (r0.ext hx0) h0 h1).mono ?_
  rintro e w1 ⟨rfl, k1⟩
  have hx1 := hx0.trans k1
  by_cases hlt : left - x.steps.length < 0
  · have hz : szL left x.size = -1 := by unfold szL Trc.size; rw [if_pos (by omega)]
    have hz1 : szL left x.steps.length = -1 := by unfold szL; rw [if_pos hlt]
    rw [hz1]
    have HZ := Lib.hid hz; clear hz hz1
    go_wp2_with fail
    go_ret
    exact ⟨ret_int HZ.out.symm, hx1⟩
  · have hz : szL (left - x.steps.length) x.pkt.size = szL left x.size := szL_add' hlt
    have hz1 : szL left x.steps.length = left - x.steps.length := by unfold szL; rw [if_neg hlt]
    rw [hz1]
    have HZ := Lib.hid hz; clear hz hz1
    have hc1 := blk12 (k1.block HB.out)
    have hl0 : 0 ≤ left - x.steps.length := by omega
    have hl1 : left - x.steps.length ≤ 1048576 := by omega
    go_wp2_with fail
    refine (l_szPacket x.pkt _ _ _ _ (r1.ext hx1) (r2.ext hx1) hl0 hl1).mono ?_
    rintro e w2 ⟨rfl, k2⟩
    by_cases hlt2 : left - x.steps.length - x.pkt.size < 0
    · have hz1 : szL (left - x.steps.length) x.pkt.size = -1 := by unfold szL; rw [if_pos hlt2]
      have HZ2 := Lib.hid (hz1.symm.trans HZ.out)
      rw [hz1]
      clear hz1
      go_wp2_with fail
      go_ret
      exact ⟨ret_int HZ2.out, hx1.trans k2⟩
    · have hz1 : szL (left - x.steps.length) x.pkt.size = left - x.steps.length - x.pkt.size := by unfold szL; rw [if_neg hlt2]
      have HZ2 := Lib.hid (hz1.symm.trans HZ.out)
      rw [hz1]
      clear hz1
      go_wp2_with fail
      go_ret
      exact ⟨ret_int HZ2.out, hx1.trans k2⟩
set_option maxRecDepth 100000 in
set_option maxHeartbeats 8000000 in
theorem l_toTrace (x : Trc) (v0 v1 v2 : Value) (w : World) (r0 : RdS Step.rep w v0 x.steps) (r1 : RdS Part.rep w v1 x.pkt.path.parts) (r2 : RdS Rep.byte w v2 x.pkt.pay) (hl : x.size ≤ 1048576) :
    Calls Try.prog 9 #[.agg #[.int .i64 x.code, v0, .int .i64 x.pkt.kind, .int .i64 x.pkt.src, .int .i64 x.pkt.dst, v1, .int .i64 x.pkt.pi, .int .i64 x.pkt.hi, .int .i64 x.pkt.beta, .int .i64 x.pkt.rid, .int .i64 x.pkt.seq, v2]] w fun e w' => ∃ u0 u1 u2, e = .returned (.agg #[.int .i64 x.code, u0, .int .i64 x.pkt.kind, .int .i64 x.pkt.src, .int .i64 x.pkt.dst, u1, .int .i64 x.pkt.pi, .int .i64 x.pkt.hi, .int .i64 x.pkt.beta, .int .i64 x.pkt.rid, .int .i64 x.pkt.seq, u2]) ∧ Trc.own (rng w.heap.size w'.heap.size) w' u0 u1 u2 x ∧ Ext w w' := by
  unfold Trc.size at hl
  go_enter Try.func9, Try.ntmps9
  go_wp2_with fail
  refine (l_toStepS x.steps _ _ (r0.ext (by repeat (first | exact Ext.refl _ | apply Ext.alloc | (refine Ext.setCell ?_ (by simp) _)))) (by omega)).mono ?_
  rintro e w1 ⟨u0, rfl, o1, k1⟩
  obtain ⟨oo0, cc0, rfl, _⟩ := (OwnF.rd (hf := Step.flen) o1).shape
  have hb0 := k1.block (al3 w _ _ _).1
  have hb1 := k1.block (al3 w _ _ _).2.1
  have hb2 := k1.block (al3 w _ _ _).2.2
  have hx1 := (ext3 w _ _ _).trans k1
  have hs1 := k1.size
  simp only [nblk_alloc] at hs1 o1
  have key : ∃ w2, w2 = w1.setCell ⟨w.heap.size + 1 + 1, 1, none⟩ (.slice oo0 x.steps.length cc0) ∧ w2.heap[w.heap.size + 1]? = some (.cells #[.int .i64 0, .slice none 0 0, .int .i64 0, .int .i64 0, .int .i64 0, .slice none 0 0, .int .i64 0, .int .i64 0, .int .i64 0, .int .i64 0, .int .i64 0, .slice none 0 0] 50) ∧ w2.heap[w.heap.size + 1 + 1]? = some (.cells #[.int .i64 x.code, .slice oo0 x.steps.length cc0, .int .i64 0, .int .i64 0, .int .i64 0, .slice none 0 0, .int .i64 0, .int .i64 0, .int .i64 0, .int .i64 0, .int .i64 0, .slice none 0 0] 50) ∧ stepOwn.own (rng (w.heap.size + 1 + 1 + 1) w1.heap.size) w2 (.slice oo0 x.steps.length cc0) x.steps ∧ Ext w w2 ∧ w2.heap.size = w1.heap.size := by
    refine ⟨_, rfl, blk_set_ne hb1 (show w.heap.size + 1 + 1 ≠ w.heap.size + 1 by omega) _ _, ?_, ?_, Ext.setCell (p := ⟨w.heap.size + 1 + 1, 1, none⟩) hx1 (show w.heap.size ≤ w.heap.size + 1 + 1 by omega) _, by simp⟩
    · have := blk_set hb2 1 (.slice oo0 x.steps.length cc0)
      simpa using this
    · exact stepOwn.kept (Own.ofF (hf := Step.flen) o1) (Chg.setCell (S := fun b => b = w.heap.size + 1 + 1) (Chg.refl _ w1) rfl _) (fun b hb e => by have := hb.1; omega)
  obtain ⟨w2, hw2, B1, B2, o1', hx2, hsz⟩ := key
  have HW := Lib.hid hw2; have HB1 := Lib.hid B1; have HB2 := Lib.hid B2
  clear hw2 B1 B2 o1
  have hc0 := blk12 hb0
  have hc2 := blk12 hb2
  have f1 := fr_of hb2 1
  clear hb0 hb1 hb2 hx1
  go_wp2_with fail
  rw [← HW.out]
  refine (l_toPacket x.pkt _ _ _ (r1.ext hx2) (r2.ext hx2) (by omega)).mono ?_
  rintro e w3 ⟨u1, u2, rfl, o2, k2⟩
  clear hc0 hc2 f1
  obtain ⟨oo1, cc1, rfl, _⟩ := (Pkt.own_rd0 o2).shape
  obtain ⟨oo2, cc2, rfl, _⟩ := (Pkt.own_rd1 o2).shape
  have b1 := k2.block HB1.out
  have b2 := k2.block HB2.out
  have hs3 : w.heap.size + 1 + 1 < w2.heap.size := blk_lt HB2.out
  have hs4 := k2.size
  have c1 := blk12 b1
  have c2 := blk12 b2
  have g0 := fr_of b1 0
  have g1 := fr_of b1 1
  have g2 := fr_of b1 2
  have g3 := fr_of b1 3
  have g4 := fr_of b1 4
  have g5 := fr_of b1 5
  have g6 := fr_of b1 6
  have g7 := fr_of b1 7
  have g8 := fr_of b1 8
  have g9 := fr_of b1 9
  have g10 := fr_of b1 10
  have g11 := fr_of b1 11
  have p2 := fr_of b2 2
  have p3 := fr_of b2 3
  have p4 := fr_of b2 4
  have p5 := fr_of b2 5
  have p6 := fr_of b2 6
  have p7 := fr_of b2 7
  have p8 := fr_of b2 8
  have p9 := fr_of b2 9
  have p10 := fr_of b2 10
  have p11 := fr_of b2 11
  have o1q := Own.ext o1' k2
  clear b1 b2 o1'
  go_wp2_with fail
  refine bodyPost_ret (v := .agg #[.int .i64 x.code, .slice oo0 x.steps.length cc0, .int .i64 x.pkt.kind, .int .i64 x.pkt.src, .int .i64 x.pkt.dst, .slice oo1 x.pkt.path.parts.length cc1, .int .i64 x.pkt.pi, .int .i64 x.pkt.hi, .int .i64 x.pkt.beta, .int .i64 x.pkt.rid, .int .i64 x.pkt.seq, .slice oo2 x.pkt.pay.length cc2]) (by simp [results, Try.results9, go_sem, c1]) rfl ⟨_, _, _, rfl, ⟨_, _, stepOwn.kept (T := fun b => b < w.heap.size + 1 + 1 + 1) o1q ?_ (fun b hb e => by have := hb.1; omega), Pkt.own_kept (T := fun b => b < w.heap.size + 1 + 1 + 1) o2 ?_ (fun b hb e => by have := hb.1; omega), ?_, ?_, ?_⟩, ?_⟩
  · have q (b : Nat) (hb : b < w.heap.size + 1 + 1 + 1) (o : Nat) (u : Value) {wq : World} (h : Chg (fun b => b < w.heap.size + 1 + 1 + 1) w3 wq) := Chg.setCell (p := ⟨b, o, none⟩) h hb u
    exact q _ (by omega) _ _ (q _ (by omega) _ _ (q _ (by omega) _ _ (q _ (by omega) _ _ (q _ (by omega) _ _ (q _ (by omega) _ _ (q _ (by omega) _ _ (q _ (by omega) _ _ (q _ (by omega) _ _ (q _ (by omega) _ _ (q _ (by omega) _ _ (q _ (by omega) _ _ (q _ (by omega) _ _ (q _ (by omega) _ _ (q _ (by omega) _ _ (q _ (by omega) _ _ (q _ (by omega) _ _ (q _ (by omega) _ _ (q _ (by omega) _ _ (q _ (by omega) _ _ (q _ (by omega) _ _ (q _ (by omega) _ _ (Chg.refl _ w3))))))))))))))))))))))
  · have q (b : Nat) (hb : b < w.heap.size + 1 + 1 + 1) (o : Nat) (u : Value) {wq : World} (h : Chg (fun b => b < w.heap.size + 1 + 1 + 1) w3 wq) := Chg.setCell (p := ⟨b, o, none⟩) h hb u
    exact q _ (by omega) _ _ (q _ (by omega) _ _ (q _ (by omega) _ _ (q _ (by omega) _ _ (q _ (by omega) _ _ (q _ (by omega) _ _ (q _ (by omega) _ _ (q _ (by omega) _ _ (q _ (by omega) _ _ (q _ (by omega) _ _ (q _ (by omega) _ _ (q _ (by omega) _ _ (q _ (by omega) _ _ (q _ (by omega) _ _ (q _ (by omega) _ _ (q _ (by omega) _ _ (q _ (by omega) _ _ (q _ (by omega) _ _ (q _ (by omega) _ _ (q _ (by omega) _ _ (q _ (by omega) _ _ (q _ (by omega) _ _ (Chg.refl _ w3))))))))))))))))))))))
  · intro b hb
    have h1 := hb.1; have h2 := hb.2
    refine ⟨by omega, ?_⟩
    simp
    omega
  · intro b hb
    have h1 := hb.1; have h2 := hb.2
    refine ⟨by omega, ?_⟩
    simp
    omega
  · intro b hb h2
    have h3 := hb.2; have h4 := h2.1
    omega
  · have hx3 := hx2.trans k2
    have q (b : Nat) (hb : w.heap.size ≤ b) (o : Nat) (u : Value) {wq : World} (h : Ext w wq) := Ext.setCell (p := ⟨b, o, none⟩) h hb u
    exact q _ (by omega) _ _ (q _ (by omega) _ _ (q _ (by omega) _ _ (q _ (by omega) _ _ (q _ (by omega) _ _ (q _ (by omega) _ _ (q _ (by omega) _ _ (q _ (by omega) _ _ (q _ (by omega) _ _ (q _ (by omega) _ _ (q _ (by omega) _ _ (q _ (by omega) _ _ (q _ (by omega) _ _ (q _ (by omega) _ _ (q _ (by omega) _ _ (q _ (by omega) _ _ (q _ (by omega) _ _ (q _ (by omega) _ _ (q _ (by omega) _ _ (q _ (by omega) _ _ (q _ (by omega) _ _ (q _ (by omega) _ _ hx3)))))))))))))))))))))
set_option maxHeartbeats 2000000 in
theorem l_eqTrace (x y : Trc) (v0 v1 v2 u0 u1 u2 : Value) (w : World) (r0 : RdS Step.rep w v0 x.steps) (r1 : RdS Part.rep w v1 x.pkt.path.parts) (r2 : RdS Rep.byte w v2 x.pkt.pay) (s0 : RdS Step.rep w u0 y.steps) (s1 : RdS Part.rep w u1 y.pkt.path.parts) (s2 : RdS Rep.byte w u2 y.pkt.pay) :
    Calls Try.prog 12 #[.agg #[.int .i64 x.code, v0, .int .i64 x.pkt.kind, .int .i64 x.pkt.src, .int .i64 x.pkt.dst, v1, .int .i64 x.pkt.pi, .int .i64 x.pkt.hi, .int .i64 x.pkt.beta, .int .i64 x.pkt.rid, .int .i64 x.pkt.seq, v2], .agg #[.int .i64 y.code, u0, .int .i64 y.pkt.kind, .int .i64 y.pkt.src, .int .i64 y.pkt.dst, u1, .int .i64 y.pkt.pi, .int .i64 y.pkt.hi, .int .i64 y.pkt.beta, .int .i64 y.pkt.rid, .int .i64 y.pkt.seq, u2]] w fun e w' => e = .returned (.bool (decide (x = y))) ∧ Ext w w' := by
  have heq : decide (x = y) = (!(x.code != y.code) && (decide (x.steps = y.steps) && decide (x.pkt = y.pkt))) := by
    cases x; cases y; simp only [nbne, Trc.mk.injEq, Bool.decide_and]
  have HEQ := Lib.hid heq; clear heq
  go_enter Try.func12, Try.ntmps12
  have hx0 := ext2 w (.cells #[.int .i64 x.code, v0, .int .i64 x.pkt.kind, .int .i64 x.pkt.src, .int .i64 x.pkt.dst, v1, .int .i64 x.pkt.pi, .int .i64 x.pkt.hi, .int .i64 x.pkt.beta, .int .i64 x.pkt.rid, .int .i64 x.pkt.seq, v2] 50) (.cells #[.int .i64 y.code, u0, .int .i64 y.pkt.kind, .int .i64 y.pkt.src, .int .i64 y.pkt.dst, u1, .int .i64 y.pkt.pi, .int .i64 y.pkt.hi, .int .i64 y.pkt.beta, .int .i64 y.pkt.rid, .int .i64 y.pkt.seq, u2] 50)
  have hB := al2 w (.cells #[.int .i64 x.code, v0, .int .i64 x.pkt.kind, .int .i64 x.pkt.src, .int .i64 x.pkt.dst, v1, .int .i64 x.pkt.pi, .int .i64 x.pkt.hi, .int .i64 x.pkt.beta, .int .i64 x.pkt.rid, .int .i64 x.pkt.seq, v2] 50) (.cells #[.int .i64 y.code, u0, .int .i64 y.pkt.kind, .int .i64 y.pkt.src, .int .i64 y.pkt.dst, u1, .int .i64 y.pkt.pi, .int .i64 y.pkt.hi, .int .i64 y.pkt.beta, .int .i64 y.pkt.rid, .int .i64 y.pkt.seq, u2] 50)
  have HB := Lib.hid hB; clear hB
  cases hc : (x.code != y.code)
  · rw [hc] at HEQ
    go_wp2_with fail
    refine (l_eqStepS x.steps y.steps _ _ _ (r0.ext hx0) (s0.ext hx0)).mono ?_
    rintro e w1 ⟨rfl, k1⟩
    have hx1 := hx0.trans k1
    have c0 := blk12 (k1.block HB.out.1)
    have c1 := blk12 (k1.block HB.out.2)
    cases hr : decide (x.steps = y.steps)
    · rw [hr] at HEQ
      go_wp2_with fail
      go_ret
      exact ⟨ret_bool HEQ.out.symm, hx1⟩
    · rw [hr] at HEQ
      go_wp2_with fail
      refine (l_eqPacket x.pkt y.pkt _ _ _ _ _ (r1.ext hx1) (r2.ext hx1) (s1.ext hx1) (s2.ext hx1)).mono ?_
      rintro e w2 ⟨rfl, k2⟩
      cases hu : decide (x.pkt = y.pkt)
      · rw [hu] at HEQ
        go_wp2_with fail
        go_ret
        exact ⟨ret_bool HEQ.out.symm, hx1.trans k2⟩
      · rw [hu] at HEQ
        go_wp2_with fail
        go_ret
        exact ⟨ret_bool HEQ.out.symm, hx1.trans k2⟩
  · rw [hc] at HEQ
    go_wp2_with fail
    go_ret
    exact ⟨ret_bool HEQ.out.symm, hx0⟩
def Trc.cnt (x : Trc) : Int := 3 * x.steps.length + x.pkt.cnt
def Trc.marked (k : Int) (x : Trc) : Trc := { x with steps := markL Step.mk' 3 k x.steps.length, pkt := Pkt.marked (k + 3 * x.steps.length) x.pkt }
theorem Trc.cnt_le {x : Trc} (h : x.size ≤ 1048576) : 0 ≤ x.cnt ∧ x.cnt ≤ 5242880 * 2 := by
  have h1 : x.pkt.size ≤ 1048576 := by unfold Trc.size at h; omega
  have h2 : x.steps.length ≤ 1048576 := by unfold Trc.size at h; omega
  have := Pkt.cnt_le h1
  unfold Trc.cnt; omega
theorem Pkt.cnt_nn (x : Pkt) : 0 ≤ x.cnt := by unfold Pkt.cnt markN; omega
end
section
open Go.ChangeShapes Go.WideShapes Go.ChangeAt Go.RowKit Go.Deep
def ASd.mk' (k : Int) : ASd := ⟨k, decide ((k + 1) % 3 = 0), k + 1 + 1⟩
theorem core_mark (k : Int) (_ : 0 ≤ k) : ((k + 1) % 3 == 0) = decide ((k + 1) % 3 = 0) := by
  by_cases e : (k + 1) % 3 = 0 <;> simp [e]
def asOwn : Own ASd := Own.flat ASd.f 3 ASd.flen 118
def lnkOwn : Own Lnk := Own.flat Lnk.f 5 Lnk.flen 122
/-- What a topology's two handles own: two sets that share no block. -/
def Topo.own (S : Nat → Prop) (w : World) (h0 h1 : Value) (x : Topo) : Prop :=
  ∃ S0 S1 : Nat → Prop, asOwn.own S0 w h0 x.ases ∧ lnkOwn.own S1 w h1 x.links ∧ (∀ b, S0 b → S b) ∧ (∀ b, S1 b → S b) ∧ ∀ b, S0 b → ¬ S1 b
theorem Topo.own_kept {S T : Nat → Prop} {w w' : World} {h0 h1 : Value} {x : Topo} (h : Topo.own S w h0 h1 x) (c : Chg T w w') (hs : ∀ b, S b → ¬ T b) : Topo.own S w' h0 h1 x := by
  obtain ⟨S0, S1, a, b, c0, c1, d⟩ := h
  exact ⟨S0, S1, asOwn.kept a c (fun k hk => hs k (c0 k hk)), lnkOwn.kept b c (fun k hk => hs k (c1 k hk)), c0, c1, d⟩
theorem Topo.own_ext {S : Nat → Prop} {w w' : World} {h0 h1 : Value} {x : Topo} (h : Topo.own S w h0 h1 x) (e : Ext w w') : Topo.own S w' h0 h1 x :=
  Topo.own_kept h (Chg.ofExt (S := noB) e) (fun _ _ h => h)
theorem Topo.own_mono {S T : Nat → Prop} {w : World} {h0 h1 : Value} {x : Topo} (h : Topo.own S w h0 h1 x) (hs : ∀ b, S b → T b) : Topo.own T w h0 h1 x := by
  obtain ⟨S0, S1, a, b, c0, c1, d⟩ := h
  exact ⟨S0, S1, a, b, fun k hk => hs k (c0 k hk), fun k hk => hs k (c1 k hk), d⟩
theorem Topo.own_rd0 {S : Nat → Prop} {w : World} {h0 h1 : Value} {x : Topo} (h : Topo.own S w h0 h1 x) : RdS ASd.rep w h0 x.ases := by
  obtain ⟨S0, S1, a, _⟩ := h; exact asOwn.rd a
theorem Topo.own_rd1 {S : Nat → Prop} {w : World} {h0 h1 : Value} {x : Topo} (h : Topo.own S w h0 h1 x) : RdS Lnk.rep w h1 x.links := by
  obtain ⟨S0, S1, _, b, _⟩ := h; exact lnkOwn.rd b
theorem Topo.own_inb {S : Nat → Prop} {w : World} {h0 h1 : Value} {x : Topo} (h : Topo.own S w h0 h1 x) : Topo.own (fun b => S b ∧ b < w.heap.size) w h0 h1 x := by
  obtain ⟨S0, S1, a, b, c0, c1, d⟩ := h
  exact ⟨_, _, asOwn.inb a, lnkOwn.inb b, fun k hk => ⟨c0 k hk.1, hk.2⟩, fun k hk => ⟨c1 k hk.1, hk.2⟩, fun k hk h2 => d k hk.1 h2.1⟩
/-- Two rows of different element types share no block. -/
theorem OwnF.apartT {α β : Type} {n m : Nat} {f : α → List Value} {f' : β → List Value} {base base' : Nat} {e e' : TypeId} {w : World} {v v' : Value} {l : List α} {l' : List β} (h : OwnF f n base e w v l) (h' : OwnF f' m base' e' w v' l') (hne : e ≠ e') {b : Nat} (hb : v.ownBlock = some b) : v'.ownBlock ≠ some b := by
  rcases h.2 with ⟨rfl, _⟩ | ⟨g, cap, cur, rfl, _, hg, _⟩
  · simp [Value.ownBlock] at hb
  · have : g = b := by simpa [Value.ownBlock] using hb
    subst this
    exact OwnF.ne h' hg (fun x => hne x.symm)
theorem Topo.own_of {base : Nat} {w : World} {u1 u2 : Value} {x : Topo} (o1 : OwnF ASd.f 3 base 118 w u1 x.ases) (o2 : OwnF Lnk.f 5 base 122 w u2 x.links) : Topo.own (rng base w.heap.size) w u1 u2 x :=
  ⟨fun b => u1.ownBlock = some b, fun b => u2.ownBlock = some b, ⟨o1.to0, fun _ h => h⟩, ⟨o2.to0, fun _ h => h⟩, fun b hb => o1.block b hb, fun b hb => o2.block b hb, fun _ hb h2 => OwnF.apartT o1 o2 (by decide) hb h2⟩
theorem l_toTopologyO (x : Topo) (v1 v2 : Value) (w : World) (r1 : RdS ASd.rep w v1 x.ases) (r2 : RdS Lnk.rep w v2 x.links) (hl : x.size ≤ 1048576) :
    Calls Try.prog 8 #[.agg #[v1, v2]] w fun e w' => ∃ u1 u2, e = .returned (.agg #[u1, u2]) ∧ Topo.own (rng w.heap.size w'.heap.size) w' u1 u2 x ∧ Ext w w' :=
  (l_toTopology x v1 v2 w r1 r2 hl).mono fun _ _ ⟨u1, u2, he, o1, o2, hx⟩ => ⟨u1, u2, he, Topo.own_of o1 o2, hx⟩
def Topo.cnt (x : Topo) : Int := 3 * x.ases.length + 5 * x.links.length
def Topo.marked (k : Int) (x : Topo) : Topo := ⟨markL ASd.mk' 3 k x.ases.length, markL Lnk.mk' 5 (k + 3 * x.ases.length) x.links.length⟩
theorem Topo.cnt_le {x : Topo} (h : x.size ≤ 1048576) : 0 ≤ x.cnt ∧ x.cnt ≤ 5242880 := by
  unfold Topo.size at h; unfold Topo.cnt; omega
end
end Go.Proofs.Ytcpfmhgfaliemaa
