/- What these laws need: FnForwards, FnHopsPassed, FnReplies: The laws' own comparisons: what is the same compares as the same. -/
import Derived.Test.YtikbeiafobnblaaGreatKR10
import Derived.Test.YtikbeiafobnblaaGreatKR22
namespace Go.Proofs.YtikbeiafobnblaaGreat
section
open Go.ChangeShapes Go.WideShapes Go.ChangeAt Go.RowKit Go.Deep
set_option maxRecDepth 100000 in
set_option maxHeartbeats 1000000 in
theorem l_same (a : List Int) (va : Value) (b : List Int) (vb : Value) (w : World) (ha : RdS Rep.byte w va a) (hb : RdS Rep.byte w vb b) :
  Calls Tryz.prog 76 #[va, vb] w fun e w' => e = .returned (.bool (decide (a = b))) ∧ Ext w w' := by
 obtain ⟨oa, ca, rfl, hsa⟩ := ha.shape
 obtain ⟨ob, cb, rfl, hsb⟩ := hb.shape
 by_cases hne : a.length = b.length
 ·
  have Hne := Lib.hid hne
  have t1 : ((a.length : Int) != (b.length : Int)) = false := by simp [hne]
  clear hne
  go_enter Tryz.func76, Tryz.ntmps76
  go_wp2
  go_loopg [5] a.length (fun gk i wr => ∃ (k : Nat), gk + k = a.length ∧ i = .int .i64 k ∧ Hid (a.take k = b.take k) ∧ Ext w wr)
  case atStart => exact ⟨0, rfl, rfl, Lib.hid rfl, Ext.refl _⟩
  case round =>
   obtain ⟨k, hgk, rfl, Htk, hx⟩ := hrel
   by_cases hlt : k < a.length
   ·
    have hlb : k < b.length := by rw [← Hne.out]; exact hlt
    have hg0 : gk - 1 + (k + 1) = a.length ∧ gk - 1 < gk := by omega
    have HG := Lib.hid hg0; clear hg0 hgk
    obtain ⟨b1, off1, rfl, hc1⟩ := bytes_at (ha.ext hx) k hlt
    obtain ⟨b2, off2, rfl, hc2⟩ := bytes_at (hb.ext hx) k hlb
    go_wp2_with fail
    refine wp_region_ext (by kernel_rfl) (by kernel_rfl) ?_
    have q0 := ExtW.cell hc1
    have q1 := ExtW.cell hc2
    repeat (first | go_big_quiet_step (fail) | quiet_step (fail))
    refine wpQuiet_nil ?_
    intro w1 hw1
    have hz1 := ExtW.out hw1
    clear hw1 q0 q1
    by_cases he : a[k] = b[k]
    ·
     have he2 : (a[k] != b[k]) = false := by simp [he]
     have HT := Lib.hid (take_snoc2 Htk.out hlt hlb he)
     clear he
     go_wp2_with fail
     go_roundg (gk - 1)
     case measure => exact HG.out.2
     case rel => exact ⟨k + 1, HG.out.1, by go_num, HT, hx.trans hz1⟩
    ·
     have he2 : (a[k] != b[k]) = true := by simp [he]
     have HF : Hid (decide (a = b) = false) := Lib.hid (decide_eq_false (by rintro rfl; exact he rfl))
     clear he
     go_wp2_with fail
     go_ret
     exact ⟨ret_bool HF.out.symm, hx.trans hz1⟩
   ·
    have hab : decide (a = b) = true := by
     have := Htk.out
     rw [List.take_of_length_le (by omega), List.take_of_length_le (by rw [← Hne.out]; omega)] at this
     simp [this]
    have Hab := Lib.hid hab; clear hab
    go_wp2_with fail
    go_ret
    exact ⟨ret_bool Hab.out.symm, hx⟩
 ·
  have t1 : ((a.length : Int) != (b.length : Int)) = true := by simp [bne_iff_ne]; omega
  have hab : decide (a = b) = false := by
   rw [decide_eq_false_iff_not]; rintro rfl; exact hne rfl
  have Hab := Lib.hid hab; clear hab
  clear hne
  go_enter Tryz.func76, Tryz.ntmps76
  go_wp2
  go_ret
  exact ⟨ret_bool Hab.out.symm, Ext.refl _⟩
set_option maxRecDepth 100000 in
set_option maxHeartbeats 8000000 in
theorem l_samePacketT (x : Pkt) (va ua vb ub : Value) (w : World) (ra : RdS Part.rep w va x.path.parts) (ya : RdS Rep.byte w ua x.pay) (rb : RdS Part.rep w vb x.path.parts) (yb : RdS Rep.byte w ub x.pay) (hl : x.path.parts.length ≤ 1048576) :
  Calls Tryz.prog 16 #[.agg #[.int .i64 x.kind, .int .i64 x.src, .int .i64 x.dst, va, .int .i64 x.pi, .int .i64 x.hi, .int .i64 x.beta, .int .i64 x.rid, .int .i64 x.seq, ua], .agg #[.int .i64 x.kind, .int .i64 x.src, .int .i64 x.dst, vb, .int .i64 x.pi, .int .i64 x.hi, .int .i64 x.beta, .int .i64 x.rid, .int .i64 x.seq, ub]] w fun e w' => e = .returned (.bool true) ∧ Ext w w' := by
 obtain ⟨oa, ca, rfl, _⟩ := ra.shape
 obtain ⟨ob, cb, rfl, _⟩ := rb.shape
 obtain ⟨qa, da, rfl, _⟩ := ya.shape
 obtain ⟨qb, db, rfl, _⟩ := yb.shape
 have hx0 := ext2 w (.cells #[.int .i64 x.kind, .int .i64 x.src, .int .i64 x.dst, .slice oa x.path.parts.length ca, .int .i64 x.pi, .int .i64 x.hi, .int .i64 x.beta, .int .i64 x.rid, .int .i64 x.seq, .slice qa x.pay.length da] 28) (.cells #[.int .i64 x.kind, .int .i64 x.src, .int .i64 x.dst, .slice ob x.path.parts.length cb, .int .i64 x.pi, .int .i64 x.hi, .int .i64 x.beta, .int .i64 x.rid, .int .i64 x.seq, .slice qb x.pay.length db] 28)
 have HB0 := Lib.hid (al2 w (.cells #[.int .i64 x.kind, .int .i64 x.src, .int .i64 x.dst, .slice oa x.path.parts.length ca, .int .i64 x.pi, .int .i64 x.hi, .int .i64 x.beta, .int .i64 x.rid, .int .i64 x.seq, .slice qa x.pay.length da] 28) (.cells #[.int .i64 x.kind, .int .i64 x.src, .int .i64 x.dst, .slice ob x.path.parts.length cb, .int .i64 x.pi, .int .i64 x.hi, .int .i64 x.beta, .int .i64 x.rid, .int .i64 x.seq, .slice qb x.pay.length db] 28))
 go_enter Tryz.func16, Tryz.ntmps16
 have e0 : (x.kind == x.kind) = true := by simp
 have e1 : (x.src == x.src) = true := by simp
 have e2 : (x.dst == x.dst) = true := by simp
 have e3 : (x.pi == x.pi) = true := by simp
 have e4 : (x.hi == x.hi) = true := by simp
 have e5 : (x.beta == x.beta) = true := by simp
 have e6 : (x.rid == x.rid) = true := by simp
 have e7 : (x.seq == x.seq) = true := by simp
 have cf1 := blk10 HB0.out.1
 have cf2 := blk10 HB0.out.2
 go_wp2_with fail
 refine (l_samePathT x.path _ _ _ (ra.ext hx0) (rb.ext hx0) hl).mono ?_
 rintro e w1 ⟨rfl, hz1⟩
 try clear cf1
 try clear cf2
 have cf3 := blk10 (Ext.block hz1 HB0.out.1)
 have cf4 := blk10 (Ext.block hz1 HB0.out.2)
 go_wp2_with fail
 refine (l_same x.pay _ x.pay _ _ (ya.ext (hx0.trans hz1)) (yb.ext (hx0.trans hz1))).mono ?_
 rintro e w2 ⟨rfl, hz2⟩
 rw [decide_eq_true (rfl : x.pay = x.pay)]
 try clear cf3
 try clear cf4
 have cf5 := blk10 (Ext.block (hz1.trans hz2) HB0.out.1)
 have cf6 := blk10 (Ext.block (hz1.trans hz2) HB0.out.2)
 go_wp2_with fail
 go_ret
 exact ⟨rfl, ((hx0.trans hz1).trans hz2)⟩
end
end Go.Proofs.YtikbeiafobnblaaGreat
