/- What these laws need: FnForwards: The laws' own comparisons: what is the same compares as the same. Comparisons of parts, program and laws. -/
import Derived.Test.YtcpfmhgfaliemaaGreatKF16
namespace Go.Proofs.YtcpfmhgfaliemaaGreat
section
open Go.ChangeShapes Go.WideShapes Go.ChangeAt Go.RowKit Go.Deep
theorem cells4_ext {w w' : World} (h : Ext w w') {p0 p1 p2 p3 : Addr} {a b c d : Value} (k : w.cell? p0 = some a ∧ w.cell? p1 = some b ∧ w.cell? p2 = some c ∧ w.cell? p3 = some d) : w'.cell? p0 = some a ∧ w'.cell? p1 = some b ∧ w'.cell? p2 = some c ∧ w'.cell? p3 = some d :=
 ⟨Ext.cell h k.1, Ext.cell h k.2.1, Ext.cell h k.2.2.1, Ext.cell h k.2.2.2⟩
set_option maxRecDepth 100000 in
set_option maxHeartbeats 1000000 in
theorem l_same (a : List Int) (va : Value) (b : List Int) (vb : Value) (w : World) (ha : RdS Rep.byte w va a) (hb : RdS Rep.byte w vb b) :
  Calls Tryz.prog 26 #[va, vb] w fun e w' => e = .returned (.bool (decide (a = b))) ∧ Ext w w' := by
 obtain ⟨oa, ca, rfl, hsa⟩ := ha.shape; obtain ⟨ob, cb, rfl, hsb⟩ := hb.shape
 by_cases hne : a.length = b.length
 ·
  have Hne := Lib.hid hne; have t1 : ((a.length : Int) != (b.length : Int)) = false := by simp [hne]
  clear hne
  go_enter Tryz.func26, Tryz.ntmps26
  go_wp2
  go_loopg [5] a.length (fun gk i wr => ∃ (k : Nat), gk + k = a.length ∧ i = .int .i64 k ∧ Hid (a.take k = b.take k) ∧ Ext w wr)
  case atStart => exact ⟨0, rfl, rfl, Lib.hid rfl, Ext.refl _⟩
  case round =>
   obtain ⟨k, hgk, rfl, Htk, hx⟩ := hrel
   by_cases hlt : k < a.length
   ·
    have hlb : k < b.length := by rw [← Hne.out]; exact hlt
    have hg0 : gk - 1 + (k + 1) = a.length ∧ gk - 1 < gk := by omega
    have HG := Lib.hid hg0; clear hg0 hgk; obtain ⟨b1, off1, rfl, hc1⟩ := bytes_at (ha.ext hx) k hlt; obtain ⟨b2, off2, rfl, hc2⟩ := bytes_at (hb.ext hx) k hlb
    go_wp2_with fail
    refine wp_region_ext (by kernel_rfl) (by kernel_rfl) ?_; have q0 := ExtW.cell hc1; have q1 := ExtW.cell hc2
    repeat (first | go_big_quiet_step (fail) | quiet_step (fail))
    refine wpQuiet_nil ?_; intro w1 hw1; have hz1 := ExtW.out hw1; clear hw1 q0 q1
    by_cases he : a[k] = b[k]
    ·
     have he2 : (a[k] != b[k]) = false := by simp [he]
     have HT := Lib.hid (take_snoc2 Htk.out hlt hlb he); clear he
     go_wp2_with fail
     go_roundg (gk - 1)
     case measure => exact HG.out.2
     case rel => exact ⟨k + 1, HG.out.1, by go_num, HT, hx.trans hz1⟩
    ·
     have he2 : (a[k] != b[k]) = true := by simp [he]
     have HF : Hid (decide (a = b) = false) := Lib.hid (decide_eq_false (by rintro rfl; exact he rfl)); clear he
     go_wp2_with fail
     go_ret
     exact ⟨ret_bool HF.out.symm, hx.trans hz1⟩
   ·
    have hab : decide (a = b) = true := by
     have := Htk.out; rw [List.take_of_length_le (by omega), List.take_of_length_le (by rw [← Hne.out]; omega)] at this
     simp [this]
    have Hab := Lib.hid hab; clear hab
    go_wp2_with fail
    go_ret
    exact ⟨ret_bool Hab.out.symm, hx⟩
 ·
  have t1 : ((a.length : Int) != (b.length : Int)) = true := by simp [bne_iff_ne]; omega
  have hab : decide (a = b) = false := by
   rw [decide_eq_false_iff_not]; rintro rfl; exact hne rfl
  have Hab := Lib.hid hab; clear hab; clear hne
  go_enter Tryz.func26, Tryz.ntmps26
  go_wp2
  go_ret
  exact ⟨ret_bool Hab.out.symm, Ext.refl _⟩
set_option maxRecDepth 100000 in
set_option maxHeartbeats 2000000 in
theorem l_samePartT (x : Part) (va vb : Value) (w : World) (ra : RdS Hop.rep w va x.hops) (rb : RdS Hop.rep w vb x.hops) :
  Calls Tryz.prog 172 #[.agg #[.int .i64 x.kind, .int .i64 x.ts, .int .i64 x.beta, va], .agg #[.int .i64 x.kind, .int .i64 x.ts, .int .i64 x.beta, vb]] w fun e w' => e = .returned (.bool true) ∧ Ext w w' := by
 obtain ⟨oa, ca, rfl, _⟩ := ra.shape; obtain ⟨ob, cb, rfl, _⟩ := rb.shape; have hx0 := ext2 w (.cells #[.int .i64 x.kind, .int .i64 x.ts, .int .i64 x.beta, .slice oa x.hops.length ca] 74) (.cells #[.int .i64 x.kind, .int .i64 x.ts, .int .i64 x.beta, .slice ob x.hops.length cb] 74); have HB0 := Lib.hid (al2 w (.cells #[.int .i64 x.kind, .int .i64 x.ts, .int .i64 x.beta, .slice oa x.hops.length ca] 74) (.cells #[.int .i64 x.kind, .int .i64 x.ts, .int .i64 x.beta, .slice ob x.hops.length cb] 74))
 go_enter Tryz.func172, Tryz.ntmps172
 have e1 : (x.kind == x.kind) = true := by simp
 have e2 : (x.ts == x.ts) = true := by simp
 have e3 : (x.beta == x.beta) = true := by simp
 have cf1 := blk4 HB0.out.1; have cf2 := blk4 HB0.out.2
 go_wp2_with fail
 refine (l_sameHops x.hops _ x.hops _ _ (ra.ext hx0) (rb.ext hx0)).mono ?_; rintro e w1 ⟨rfl, hz1⟩; rw [decide_eq_true (rfl : x.hops = x.hops)]
 try clear cf1
 try clear cf2
 have cf3 := blk4 (Ext.block hz1 HB0.out.1); have cf4 := blk4 (Ext.block hz1 HB0.out.2)
 go_wp2_with fail
 go_ret
 exact ⟨rfl, (hx0.t hz1)⟩
set_option maxRecDepth 100000 in
set_option maxHeartbeats 4000000 in
theorem l_samePathT (p : Pth) (va vb : Value) (w : World) (ra : RdS Part.rep w va p.parts) (rb : RdS Part.rep w vb p.parts) (hl : p.parts.length ≤ 1048576) :
  Calls Tryz.prog 92 #[.agg #[va], .agg #[vb]] w fun e w' => e = .returned (.bool true) ∧ Ext w w' := by
 obtain ⟨ps⟩ := p; dsimp only at ra rb hl ⊢
 obtain ⟨oa, ca, rfl, _⟩ := ra.shape; obtain ⟨ob, cb, rfl, _⟩ := rb.shape; have hx0 := ext2 w (.cells #[.slice oa ps.length ca] 35) (.cells #[.slice ob ps.length cb] 35); have HB0 := Lib.hid (al2 w (.cells #[.slice oa ps.length ca] 35) (.cells #[.slice ob ps.length cb] 35))
 go_enter Tryz.func92, Tryz.ntmps92
 have t1 : ((ps.length : Int) != (ps.length : Int)) = false := by simp
 have cf1 := blk1 HB0.out.1; have cf2 := blk1 HB0.out.2
 go_wp2_with fail
 clear t1
 go_loopg [5] ps.length (fun gk i wr => ∃ k : Nat, gk + k = ps.length ∧ i = .int .i64 k ∧ Ext ((w.alloc (.cells #[.slice oa ps.length ca] 35)).alloc (.cells #[.slice ob ps.length cb] 35)) wr)
 case atStart => exact ⟨0, by omega, rfl, Ext.refl _⟩
 case round =>
  obtain ⟨k, hgk, rfl, hx⟩ := hrel; have HGK := Lib.hid hgk; clear hgk
  by_cases hlt : k < ps.length
  ·
   have hlt2 : (k : Int) < (ps.length : Int) := by omega
   obtain ⟨b1, off1, o1, c1, rfl, hc1, hr1⟩ := Part.at (ra.ext (hx0.t hx)) k hlt; obtain ⟨b2, off2, o2, c2, rfl, hc2, hr2⟩ := Part.at (rb.ext (hx0.t hx)) k hlt
   obtain ⟨x, hpx⟩ : ∃ x, x = ps[k] := ⟨_, rfl⟩
   rw [← hpx] at hc1 hr1 hc2 hr2; clear hpx
   try clear cf1
   try clear cf2
   have cf3 := blk1 (Ext.block hx HB0.out.1); have cf4 := blk1 (Ext.block hx HB0.out.2)
   go_wp2_with fail
   go_wp2_with fail
   refine planStep (.blk [0, 1, 2, 3, 4, 5, 6, 7, 8, 9] (.one 10 (.blk [11] .done))) [] (by kernel_rfl) (by kernel_rfl) ?_
   try clear cf3
   try clear cf4
   have cf5 := blk1 (Ext.block (hx.t ((Ext.refl _).drew)) HB0.out.1); have cf6 := blk1 (Ext.block (hx.t ((Ext.refl _).drew)) HB0.out.2); have cf7 := cells4_ext ((Ext.refl _).drew) hc1; have cf8 := cells4_ext ((Ext.refl _).drew) hc2; refine blkStep (fun K HK => ?_); simp only [PK]
   go_wp2_with fail
   refine HK.out _ _ ?_; clear HK K; refine oneStep (fun K HK => ?_); simp only [PK]
   go_wp2_with fail
   refine (l_samePartT x _ _ _ (hr1.ext ((Ext.refl _).drew)) (hr2.ext ((Ext.refl _).drew))).mono ?_; rintro e w1 ⟨rfl, hz1⟩
   try clear cf5
   try clear cf6
   try clear cf7
   try clear cf8
   have cf9 := blk1 (Ext.block ((hx.t ((Ext.refl _).drew)).t hz1) HB0.out.1); have cf10 := blk1 (Ext.block ((hx.t ((Ext.refl _).drew)).t hz1) HB0.out.2); have cf11 := cells4_ext (((Ext.refl _).drew).t hz1) hc1; have cf12 := cells4_ext (((Ext.refl _).drew).t hz1) hc2
   go_wp2_with fail
   refine HK.out _ _ hz1 ?_; clear HK K; refine blkStep (fun K HK => ?_); simp only [PK]
   go_wp2_with fail
   refine HK.out _ _ ?_; clear HK K; refine doneStep (by kernel_rfl) ?_
   go_wp2_with fail
   go_roundg (gk - 1)
   case measure => have h2 := HGK.out; omega
   case rel => exact ⟨k + 1, by have h2 := HGK.out; omega, congrArg (Value.int .i64) (by first | omega | (unfold wrap64; omega)), ((hx.t ((Ext.refl _).drew)).t hz1)⟩
  ·
   have hge : ¬ (k : Int) < (ps.length : Int) := by omega
   try clear cf1
   try clear cf2
   have cf13 := blk1 (Ext.block hx HB0.out.1); have cf14 := blk1 (Ext.block hx HB0.out.2)
   go_wp2_with fail
   go_ret
   exact ⟨rfl, (hx0.t hx)⟩
set_option maxRecDepth 100000 in
set_option maxHeartbeats 8000000 in
theorem l_samePacketT (x : Pkt) (va ua vb ub : Value) (w : World) (ra : RdS Part.rep w va x.path.parts) (ya : RdS Rep.byte w ua x.pay) (rb : RdS Part.rep w vb x.path.parts) (yb : RdS Rep.byte w ub x.pay) (hl : x.path.parts.length ≤ 1048576) :
  Calls Tryz.prog 42 #[.agg #[.int .i64 x.kind, .int .i64 x.src, .int .i64 x.dst, va, .int .i64 x.pi, .int .i64 x.hi, .int .i64 x.beta, .int .i64 x.rid, .int .i64 x.seq, ua], .agg #[.int .i64 x.kind, .int .i64 x.src, .int .i64 x.dst, vb, .int .i64 x.pi, .int .i64 x.hi, .int .i64 x.beta, .int .i64 x.rid, .int .i64 x.seq, ub]] w fun e w' => e = .returned (.bool true) ∧ Ext w w' := by
 obtain ⟨oa, ca, rfl, _⟩ := ra.shape; obtain ⟨ob, cb, rfl, _⟩ := rb.shape; obtain ⟨qa, da, rfl, _⟩ := ya.shape; obtain ⟨qb, db, rfl, _⟩ := yb.shape; have hx0 := ext2 w (.cells #[.int .i64 x.kind, .int .i64 x.src, .int .i64 x.dst, .slice oa x.path.parts.length ca, .int .i64 x.pi, .int .i64 x.hi, .int .i64 x.beta, .int .i64 x.rid, .int .i64 x.seq, .slice qa x.pay.length da] 58) (.cells #[.int .i64 x.kind, .int .i64 x.src, .int .i64 x.dst, .slice ob x.path.parts.length cb, .int .i64 x.pi, .int .i64 x.hi, .int .i64 x.beta, .int .i64 x.rid, .int .i64 x.seq, .slice qb x.pay.length db] 58); have HB0 := Lib.hid (al2 w (.cells #[.int .i64 x.kind, .int .i64 x.src, .int .i64 x.dst, .slice oa x.path.parts.length ca, .int .i64 x.pi, .int .i64 x.hi, .int .i64 x.beta, .int .i64 x.rid, .int .i64 x.seq, .slice qa x.pay.length da] 58) (.cells #[.int .i64 x.kind, .int .i64 x.src, .int .i64 x.dst, .slice ob x.path.parts.length cb, .int .i64 x.pi, .int .i64 x.hi, .int .i64 x.beta, .int .i64 x.rid, .int .i64 x.seq, .slice qb x.pay.length db] 58))
 go_enter Tryz.func42, Tryz.ntmps42
 have e0 : (x.kind == x.kind) = true := by simp
 have e1 : (x.src == x.src) = true := by simp
 have e2 : (x.dst == x.dst) = true := by simp
 have e3 : (x.pi == x.pi) = true := by simp
 have e4 : (x.hi == x.hi) = true := by simp
 have e5 : (x.beta == x.beta) = true := by simp
 have e6 : (x.rid == x.rid) = true := by simp
 have e7 : (x.seq == x.seq) = true := by simp
 have cf1 := blk10 HB0.out.1; have cf2 := blk10 HB0.out.2
 go_wp2_with fail
 refine (l_samePathT x.path _ _ _ (ra.ext hx0) (rb.ext hx0) hl).mono ?_; rintro e w1 ⟨rfl, hz1⟩
 try clear cf1
 try clear cf2
 have cf3 := blk10 (Ext.block hz1 HB0.out.1); have cf4 := blk10 (Ext.block hz1 HB0.out.2)
 go_wp2_with fail
 refine (l_same x.pay _ x.pay _ _ (ya.ext (hx0.t hz1)) (yb.ext (hx0.t hz1))).mono ?_; rintro e w2 ⟨rfl, hz2⟩; rw [decide_eq_true (rfl : x.pay = x.pay)]
 try clear cf3
 try clear cf4
 have cf5 := blk10 (Ext.block (hz1.t hz2) HB0.out.1); have cf6 := blk10 (Ext.block (hz1.t hz2) HB0.out.2)
 go_wp2_with fail
 go_ret
 exact ⟨rfl, ((hx0.t hz1).t hz2)⟩
end
section
open Go.ChangeShapes Go.WideShapes Go.ChangeAt Go.RowKit Go.Deep
def partEq (x y : Part) : Bool := (x.kind == y.kind) && (x.ts == y.ts) && (x.beta == y.beta) && decide (x.hops = y.hops)
set_option maxRecDepth 100000 in
set_option maxHeartbeats 400000 in
theorem i_equalHopLists (a : List Hop) (va : Value) (b : List Hop) (vb : Value) (w : World) (ha : RdS Hop.rep w va a) (hb : RdS Hop.rep w vb b) :
  Calls Tryz.prog 254 #[va, vb] w fun e w' => e = .returned (.bool (decide (a = b))) ∧ Ext w w' := by
 obtain ⟨oa, ca, rfl, hsa⟩ := ha.shape; obtain ⟨ob, cb, rfl, hsb⟩ := hb.shape
 by_cases hne : a.length = b.length
 ·
  have Hne := Lib.hid hne; have t1 : ((a.length : Int) != (b.length : Int)) = false := by simp [hne]
  clear hne
  go_enter Tryz.func254, Tryz.ntmps254
  go_wp2
  go_loopw [13] (fun i wr => ∃ (k : Nat), k ≤ a.length ∧ i = .int .i64 k ∧ a.take k = b.take k ∧ Ext w wr) (fun i _ => a.length - (intOf i).toNat)
  case atStart => exact ⟨0, Nat.zero_le _, rfl, rfl, Ext.refl _⟩
  case round =>
   obtain ⟨k, hk, rfl, htk, hx⟩ := hrel; have Htk := Lib.hid htk; clear htk
   by_cases hlt : k < a.length
   ·
    have hlb : k < b.length := by rw [← Hne.out]; exact hlt
    obtain ⟨b1, off1, rfl, hc1⟩ := Hop.at (ha.ext hx) k hlt; obtain ⟨b2, off2, rfl, hc2⟩ := Hop.at (hb.ext hx) k hlb
    go_wp2
    go_still_tail 8, (by kernel_rfl)
    go_wp2_with fail
    all_goals first
     | (go_ret; exact ⟨ret_bool (Eq.symm (decide_eq_false (by rintro rfl; contradiction))), hx.drew⟩)
     | exact ⟨⟨k + 1, by omega, by go_num, take_snoc2 Htk.out hlt hlb (Hop.ext' (by assumption) (by assumption) (by assumption) (by assumption) (by assumption)), hx.drew⟩, by simp [intOf]; omega⟩
   ·
    have hab : decide (a = b) = true := by
     have := Htk.out; rw [List.take_of_length_le (by omega), List.take_of_length_le (by rw [← Hne.out]; omega)] at this
     simp [this]
    have Hab := Lib.hid hab; clear hab
    go_wp2
    go_ret
    exact ⟨ret_bool Hab.out.symm, hx⟩
 ·
  have t1 : ((a.length : Int) != (b.length : Int)) = true := by simp [bne_iff_ne]; omega
  have hab : decide (a = b) = false := by
   rw [decide_eq_false_iff_not]; rintro rfl; exact hne rfl
  have Hab := Lib.hid hab; clear hab; clear hne
  go_enter Tryz.func254, Tryz.ntmps254
  go_wp2
  go_ret
  exact ⟨ret_bool Hab.out.symm, Ext.refl _⟩
set_option maxRecDepth 100000 in
set_option maxHeartbeats 2000000 in
theorem i_EqualParts (x y : Part) (va vb : Value) (w : World) (ra : RdS Hop.rep w va x.hops) (rb : RdS Hop.rep w vb y.hops) :
  Calls Tryz.prog 230 #[.agg #[.int .i64 x.kind, .int .i64 x.ts, .int .i64 x.beta, va], .agg #[.int .i64 y.kind, .int .i64 y.ts, .int .i64 y.beta, vb]] w fun e w' => e = .returned (.bool (partEq x y)) ∧ Ext w w' := by
 obtain ⟨oa, ca, rfl, _⟩ := ra.shape; obtain ⟨ob, cb, rfl, _⟩ := rb.shape; have hpe : partEq x y = ((x.kind == y.kind) && (x.ts == y.ts) && (x.beta == y.beta) && decide (x.hops = y.hops)) := rfl; have HPE := Lib.hid hpe; clear hpe; have hx0 := ext2 w (.cells #[.int .i64 x.kind, .int .i64 x.ts, .int .i64 x.beta, .slice oa x.hops.length ca] 74) (.cells #[.int .i64 y.kind, .int .i64 y.ts, .int .i64 y.beta, .slice ob y.hops.length cb] 74); have HB0 := Lib.hid (al2 w (.cells #[.int .i64 x.kind, .int .i64 x.ts, .int .i64 x.beta, .slice oa x.hops.length ca] 74) (.cells #[.int .i64 y.kind, .int .i64 y.ts, .int .i64 y.beta, .slice ob y.hops.length cb] 74))
 go_enter Tryz.func230, Tryz.ntmps230
 cases e0 : (x.kind == y.kind)
 ·
  have cf1 := blk4 HB0.out.1; have cf2 := blk4 HB0.out.2
  go_wp2_with fail
  go_ret
  exact ⟨ret_bool (by rw [HPE.out, e0]; rfl), hx0⟩
 ·
  cases e1 : (x.ts == y.ts)
  ·
   have cf3 := blk4 HB0.out.1; have cf4 := blk4 HB0.out.2
   go_wp2_with fail
   go_ret
   exact ⟨ret_bool (by rw [HPE.out, e0, e1]; rfl), hx0⟩
  ·
   cases e2 : (x.beta == y.beta)
   ·
    have cf5 := blk4 HB0.out.1; have cf6 := blk4 HB0.out.2
    go_wp2_with fail
    go_ret
    exact ⟨ret_bool (by rw [HPE.out, e0, e1, e2]; rfl), hx0⟩
   ·
    have cf7 := blk4 HB0.out.1; have cf8 := blk4 HB0.out.2
    go_wp2_with fail
    refine (i_equalHopLists x.hops _ y.hops _ _ (ra.ext hx0) (rb.ext hx0)).mono ?_; rintro e w1 ⟨rfl, hz1⟩
    try clear cf7
    try clear cf8
    have cf9 := blk4 (Ext.block hz1 HB0.out.1); have cf10 := blk4 (Ext.block hz1 HB0.out.2)
    go_wp2_with fail
    go_ret
    exact ⟨ret_bool (by rw [HPE.out, e0, e1, e2]; rfl), (hx0.t hz1)⟩
set_option maxRecDepth 100000 in
set_option maxHeartbeats 2000000 in
theorem l_samePart (x y : Part) (va vb : Value) (w : World) (ra : RdS Hop.rep w va x.hops) (rb : RdS Hop.rep w vb y.hops) :
  Calls Tryz.prog 172 #[.agg #[.int .i64 x.kind, .int .i64 x.ts, .int .i64 x.beta, va], .agg #[.int .i64 y.kind, .int .i64 y.ts, .int .i64 y.beta, vb]] w fun e w' => e = .returned (.bool (partEq x y)) ∧ Ext w w' := by
 obtain ⟨oa, ca, rfl, _⟩ := ra.shape; obtain ⟨ob, cb, rfl, _⟩ := rb.shape; have hpe : partEq x y = ((x.kind == y.kind) && (x.ts == y.ts) && (x.beta == y.beta) && decide (x.hops = y.hops)) := rfl; have HPE := Lib.hid hpe; clear hpe; have hx0 := ext2 w (.cells #[.int .i64 x.kind, .int .i64 x.ts, .int .i64 x.beta, .slice oa x.hops.length ca] 74) (.cells #[.int .i64 y.kind, .int .i64 y.ts, .int .i64 y.beta, .slice ob y.hops.length cb] 74); have HB0 := Lib.hid (al2 w (.cells #[.int .i64 x.kind, .int .i64 x.ts, .int .i64 x.beta, .slice oa x.hops.length ca] 74) (.cells #[.int .i64 y.kind, .int .i64 y.ts, .int .i64 y.beta, .slice ob y.hops.length cb] 74))
 go_enter Tryz.func172, Tryz.ntmps172
 cases e0 : (x.kind == y.kind)
 ·
  have cf1 := blk4 HB0.out.1; have cf2 := blk4 HB0.out.2
  go_wp2_with fail
  go_ret
  exact ⟨ret_bool (by rw [HPE.out, e0]; rfl), hx0⟩
 ·
  cases e1 : (x.ts == y.ts)
  ·
   have cf3 := blk4 HB0.out.1; have cf4 := blk4 HB0.out.2
   go_wp2_with fail
   go_ret
   exact ⟨ret_bool (by rw [HPE.out, e0, e1]; rfl), hx0⟩
  ·
   cases e2 : (x.beta == y.beta)
   ·
    have cf5 := blk4 HB0.out.1; have cf6 := blk4 HB0.out.2
    go_wp2_with fail
    go_ret
    exact ⟨ret_bool (by rw [HPE.out, e0, e1, e2]; rfl), hx0⟩
   ·
    have cf7 := blk4 HB0.out.1; have cf8 := blk4 HB0.out.2
    go_wp2_with fail
    refine (l_sameHops x.hops _ y.hops _ _ (ra.ext hx0) (rb.ext hx0)).mono ?_; rintro e w1 ⟨rfl, hz1⟩
    try clear cf7
    try clear cf8
    have cf9 := blk4 (Ext.block hz1 HB0.out.1); have cf10 := blk4 (Ext.block hz1 HB0.out.2)
    go_wp2_with fail
    go_ret
    exact ⟨ret_bool (by rw [HPE.out, e0, e1, e2]; rfl), (hx0.t hz1)⟩
end
end Go.Proofs.YtcpfmhgfaliemaaGreat
