/- What these laws need: FnNotes: The laws' own comparisons: what is the same compares as the same. Contracts of what is checked of segments: the first hop that does not verify, ends, expiries, codes struck out. Contracts of well-formed segments, their kinds, and valid and usable ones, program and reference. -/
import Derived.Test.YtcpfmhgfaliemaaGreatKM16
namespace Go.Proofs.YtcpfmhgfaliemaaGreat
section
open Go.ChangeShapes Go.WideShapes Go.ChangeAt Go.RowKit Go.Deep
theorem cells4_ext {w w' : World} (h : Ext w w') {p0 p1 p2 p3 : Addr} {a b c d : Value} (k : w.cell? p0 = some a ∧ w.cell? p1 = some b ∧ w.cell? p2 = some c ∧ w.cell? p3 = some d) : w'.cell? p0 = some a ∧ w'.cell? p1 = some b ∧ w'.cell? p2 = some c ∧ w'.cell? p3 = some d :=
 ⟨Ext.cell h k.1, Ext.cell h k.2.1, Ext.cell h k.2.2.1, Ext.cell h k.2.2.2⟩
set_option maxRecDepth 100000 in
set_option maxHeartbeats 1000000 in
theorem l_same (a : List Int) (va : Value) (b : List Int) (vb : Value) (w : World) (ha : RdS Rep.byte w va a) (hb : RdS Rep.byte w vb b) :
  Calls Tryz.prog 26 #[va, vb] w fun e w' => e = .returned (.bool (decide (a = b))) ∧ Ext w w' := by
 obtain ⟨oa, ca, rfl, hsa⟩ := ha.shape; obtain ⟨ob, cb, rfl, hsb⟩ := hb.shape
 by_cases hne : a.length = b.length
 ·
  have Hne := Lib.hid hne; have t1 : ((a.length : Int) != (b.length : Int)) = false := by simp [hne]
  clear hne
  go_enter Tryz.func26, Tryz.ntmps26
  go_wp2
  go_loopg [5] a.length (fun gk i wr => ∃ (k : Nat), gk + k = a.length ∧ i = .int .i64 k ∧ Hid (a.take k = b.take k) ∧ Ext w wr)
  case atStart => exact ⟨0, rfl, rfl, Lib.hid rfl, Ext.refl _⟩
  case round =>
   obtain ⟨k, hgk, rfl, Htk, hx⟩ := hrel
   by_cases hlt : k < a.length
   ·
    have hlb : k < b.length := by rw [← Hne.out]; exact hlt
    have hg0 : gk - 1 + (k + 1) = a.length ∧ gk - 1 < gk := by omega
    have HG := Lib.hid hg0; clear hg0 hgk; obtain ⟨b1, off1, rfl, hc1⟩ := bytes_at (ha.ext hx) k hlt; obtain ⟨b2, off2, rfl, hc2⟩ := bytes_at (hb.ext hx) k hlb
    go_wp2_with fail
    refine wp_region_ext (by kernel_rfl) (by kernel_rfl) ?_; have q0 := ExtW.cell hc1; have q1 := ExtW.cell hc2
    repeat (first | go_big_quiet_step (fail) | quiet_step (fail))
    refine wpQuiet_nil ?_; intro w1 hw1; have hz1 := ExtW.out hw1; clear hw1 q0 q1
    by_cases he : a[k] = b[k]
    ·
     have he2 : (a[k] != b[k]) = false := by simp [he]
     have HT := Lib.hid (take_snoc2 Htk.out hlt hlb he); clear he
     go_wp2_with fail
     go_roundg (gk - 1)
     case measure => exact HG.out.2
     case rel => exact ⟨k + 1, HG.out.1, by go_num, HT, hx.trans hz1⟩
    ·
     have he2 : (a[k] != b[k]) = true := by simp [he]
     have HF : Hid (decide (a = b) = false) := Lib.hid (decide_eq_false (by rintro rfl; exact he rfl)); clear he
     go_wp2_with fail
     go_ret
     exact ⟨ret_bool HF.out.symm, hx.trans hz1⟩
   ·
    have hab : decide (a = b) = true := by
     have := Htk.out; rw [List.take_of_length_le (by omega), List.take_of_length_le (by rw [← Hne.out]; omega)] at this
     simp [this]
    have Hab := Lib.hid hab; clear hab
    go_wp2_with fail
    go_ret
    exact ⟨ret_bool Hab.out.symm, hx⟩
 ·
  have t1 : ((a.length : Int) != (b.length : Int)) = true := by simp [bne_iff_ne]; omega
  have hab : decide (a = b) = false := by
   rw [decide_eq_false_iff_not]; rintro rfl; exact hne rfl
  have Hab := Lib.hid hab; clear hab; clear hne
  go_enter Tryz.func26, Tryz.ntmps26
  go_wp2
  go_ret
  exact ⟨ret_bool Hab.out.symm, Ext.refl _⟩
set_option maxRecDepth 100000 in
set_option maxHeartbeats 2000000 in
theorem l_samePartT (x : Part) (va vb : Value) (w : World) (ra : RdS Hop.rep w va x.hops) (rb : RdS Hop.rep w vb x.hops) :
  Calls Tryz.prog 172 #[.agg #[.int .i64 x.kind, .int .i64 x.ts, .int .i64 x.beta, va], .agg #[.int .i64 x.kind, .int .i64 x.ts, .int .i64 x.beta, vb]] w fun e w' => e = .returned (.bool true) ∧ Ext w w' := by
 obtain ⟨oa, ca, rfl, _⟩ := ra.shape; obtain ⟨ob, cb, rfl, _⟩ := rb.shape; have hx0 := ext2 w (.cells #[.int .i64 x.kind, .int .i64 x.ts, .int .i64 x.beta, .slice oa x.hops.length ca] 74) (.cells #[.int .i64 x.kind, .int .i64 x.ts, .int .i64 x.beta, .slice ob x.hops.length cb] 74); have HB0 := Lib.hid (al2 w (.cells #[.int .i64 x.kind, .int .i64 x.ts, .int .i64 x.beta, .slice oa x.hops.length ca] 74) (.cells #[.int .i64 x.kind, .int .i64 x.ts, .int .i64 x.beta, .slice ob x.hops.length cb] 74))
 go_enter Tryz.func172, Tryz.ntmps172
 have e1 : (x.kind == x.kind) = true := by simp
 have e2 : (x.ts == x.ts) = true := by simp
 have e3 : (x.beta == x.beta) = true := by simp
 have cf1 := blk4 HB0.out.1; have cf2 := blk4 HB0.out.2
 go_wp2_with fail
 refine (l_sameHops x.hops _ x.hops _ _ (ra.ext hx0) (rb.ext hx0)).mono ?_; rintro e w1 ⟨rfl, hz1⟩; rw [decide_eq_true (rfl : x.hops = x.hops)]
 try clear cf1
 try clear cf2
 have cf3 := blk4 (Ext.block hz1 HB0.out.1); have cf4 := blk4 (Ext.block hz1 HB0.out.2)
 go_wp2_with fail
 go_ret
 exact ⟨rfl, (hx0.t hz1)⟩
set_option maxRecDepth 100000 in
set_option maxHeartbeats 4000000 in
theorem l_samePathT (p : Pth) (va vb : Value) (w : World) (ra : RdS Part.rep w va p.parts) (rb : RdS Part.rep w vb p.parts) (hl : p.parts.length ≤ 1048576) :
  Calls Tryz.prog 92 #[.agg #[va], .agg #[vb]] w fun e w' => e = .returned (.bool true) ∧ Ext w w' := by
 obtain ⟨ps⟩ := p; dsimp only at ra rb hl ⊢
 obtain ⟨oa, ca, rfl, _⟩ := ra.shape; obtain ⟨ob, cb, rfl, _⟩ := rb.shape; have hx0 := ext2 w (.cells #[.slice oa ps.length ca] 35) (.cells #[.slice ob ps.length cb] 35); have HB0 := Lib.hid (al2 w (.cells #[.slice oa ps.length ca] 35) (.cells #[.slice ob ps.length cb] 35))
 go_enter Tryz.func92, Tryz.ntmps92
 have t1 : ((ps.length : Int) != (ps.length : Int)) = false := by simp
 have cf1 := blk1 HB0.out.1; have cf2 := blk1 HB0.out.2
 go_wp2_with fail
 clear t1
 go_loopg [5] ps.length (fun gk i wr => ∃ k : Nat, gk + k = ps.length ∧ i = .int .i64 k ∧ Ext ((w.alloc (.cells #[.slice oa ps.length ca] 35)).alloc (.cells #[.slice ob ps.length cb] 35)) wr)
 case atStart => exact ⟨0, by omega, rfl, Ext.refl _⟩
 case round =>
  obtain ⟨k, hgk, rfl, hx⟩ := hrel; have HGK := Lib.hid hgk; clear hgk
  by_cases hlt : k < ps.length
  ·
   have hlt2 : (k : Int) < (ps.length : Int) := by omega
   obtain ⟨b1, off1, o1, c1, rfl, hc1, hr1⟩ := Part.at (ra.ext (hx0.t hx)) k hlt; obtain ⟨b2, off2, o2, c2, rfl, hc2, hr2⟩ := Part.at (rb.ext (hx0.t hx)) k hlt
   obtain ⟨x, hpx⟩ : ∃ x, x = ps[k] := ⟨_, rfl⟩
   rw [← hpx] at hc1 hr1 hc2 hr2; clear hpx
   try clear cf1
   try clear cf2
   have cf3 := blk1 (Ext.block hx HB0.out.1); have cf4 := blk1 (Ext.block hx HB0.out.2)
   go_wp2_with fail
   go_wp2_with fail
   refine planStep (.blk [0, 1, 2, 3, 4, 5, 6, 7, 8, 9] (.one 10 (.blk [11] .done))) [] (by kernel_rfl) (by kernel_rfl) ?_
   try clear cf3
   try clear cf4
   have cf5 := blk1 (Ext.block (hx.t ((Ext.refl _).drew)) HB0.out.1); have cf6 := blk1 (Ext.block (hx.t ((Ext.refl _).drew)) HB0.out.2); have cf7 := cells4_ext ((Ext.refl _).drew) hc1; have cf8 := cells4_ext ((Ext.refl _).drew) hc2; refine blkStep (fun K HK => ?_); simp only [PK]
   go_wp2_with fail
   refine HK.out _ _ ?_; clear HK K; refine oneStep (fun K HK => ?_); simp only [PK]
   go_wp2_with fail
   refine (l_samePartT x _ _ _ (hr1.ext ((Ext.refl _).drew)) (hr2.ext ((Ext.refl _).drew))).mono ?_; rintro e w1 ⟨rfl, hz1⟩
   try clear cf5
   try clear cf6
   try clear cf7
   try clear cf8
   have cf9 := blk1 (Ext.block ((hx.t ((Ext.refl _).drew)).t hz1) HB0.out.1); have cf10 := blk1 (Ext.block ((hx.t ((Ext.refl _).drew)).t hz1) HB0.out.2); have cf11 := cells4_ext (((Ext.refl _).drew).t hz1) hc1; have cf12 := cells4_ext (((Ext.refl _).drew).t hz1) hc2
   go_wp2_with fail
   refine HK.out _ _ hz1 ?_; clear HK K; refine blkStep (fun K HK => ?_); simp only [PK]
   go_wp2_with fail
   refine HK.out _ _ ?_; clear HK K; refine doneStep (by kernel_rfl) ?_
   go_wp2_with fail
   go_roundg (gk - 1)
   case measure => have h2 := HGK.out; omega
   case rel => exact ⟨k + 1, by have h2 := HGK.out; omega, congrArg (Value.int .i64) (by first | omega | (unfold wrap64; omega)), ((hx.t ((Ext.refl _).drew)).t hz1)⟩
  ·
   have hge : ¬ (k : Int) < (ps.length : Int) := by omega
   try clear cf1
   try clear cf2
   have cf13 := blk1 (Ext.block hx HB0.out.1); have cf14 := blk1 (Ext.block hx HB0.out.2)
   go_wp2_with fail
   go_ret
   exact ⟨rfl, (hx0.t hx)⟩
end
section
open Go.ChangeShapes Go.WideShapes Go.ChangeAt Go.RowKit Go.Deep
def strip (l : List Hop) : List Hop := l.map (fun h => { h with mac := 0 })
def authAt (t : Topo) (s : Seg) (r : Int) (k : Nat) : Bool := ((hopAt s.hops k).asn == r) && verHop t s.ts (betaAt s k) (hopAt s.hops k)
def authBy (t : Topo) (s : Seg) (r : Int) : Bool := !(allTo (fun k => !(authAt t s r k)) s.hops.length)
def isTerm (s : Seg) : Bool := decide (0 < s.hops.length) && ((hopAt s.hops (s.hops.length - 1)).eg == 0)
theorem least_next {l : List Hop} {k : Nat} (h0 : 0 < k) (hk : k < l.length) : leastExp (l.take (k + 1)) = if l[k].exp < leastExp (l.take k) then l[k].exp else leastExp (l.take k) := by
 have h := least_snoc hk; rw [h]
 by_cases h1 : l[k].exp < leastExp (l.take k)
 ·
  rw [if_pos (.inr h1), if_pos h1]
 ·
  rw [if_neg (by omega), if_neg h1]
theorem least_one {l : List Hop} (h : 0 < l.length) : leastExp (l.take 1) = l[0].exp := by
 cases l with
 | nil => simp at h
 | cons x l => rfl
theorem authBy_yes {t : Topo} {s : Seg} {r : Int} {k : Nat} (hk : k < s.hops.length) (h1 : (s.hops[k].asn == r) = true) (h2 : verHop t s.ts (betaAt s k) s.hops[k] = true) : authBy t s r = true := by
 have : allTo (fun k => !(authAt t s r k)) s.hops.length = false := allTo_no hk (by simp only [authAt, hopAt_at hk, h1, h2]; rfl); unfold authBy; rw [this]; rfl
theorem authBy_no {t : Topo} {s : Seg} {r : Int} (h : allTo (fun k => !(authAt t s r k)) s.hops.length = true) : authBy t s r = false := by unfold authBy; rw [h]; rfl
theorem auth_not1 {t : Topo} {s : Seg} {r : Int} {k : Nat} (hk : k < s.hops.length) (h : (s.hops[k].asn == r) = false) : (!(authAt t s r k)) = true := by simp only [authAt, hopAt_at hk, h]; rfl
theorem auth_not2 {t : Topo} {s : Seg} {r : Int} {k : Nat} (hk : k < s.hops.length) (h : verHop t s.ts (betaAt s k) s.hops[k] = false) : (!(authAt t s r k)) = true := by simp only [authAt, hopAt_at hk, h, Bool.and_false]; rfl
set_option maxRecDepth 100000 in
set_option maxHeartbeats 4000000 in
theorem s_FirstInvalidHop (t : Topo) (v1 v2 : Value) (s : Seg) (v : Value) (w : World) (ha : RdS ASd.rep w v1 t.ases) (r : RdS Hop.rep w v s.hops) (hl : s.hops.length ≤ 1048576) :
  Calls Tryz.prog 259 #[.agg #[v1, v2], .agg #[.int .i64 s.ts, .int .i64 s.beta, v]] w fun e w' => e = .returned (.int .i64 (firstBad t s)) ∧ Ext w w' := by
 obtain ⟨o, cap, rfl, hsm⟩ := r.shape; have hx0 := ext2 w (.cells #[v1, v2] 56) (.cells #[.int .i64 s.ts, .int .i64 s.beta, .slice o s.hops.length cap] 203); have HB0 := Lib.hid (al2 w (.cells #[v1, v2] 56) (.cells #[.int .i64 s.ts, .int .i64 s.beta, .slice o s.hops.length cap] 203))
 go_enter Tryz.func259, Tryz.ntmps259
 obtain ⟨W0, hW0⟩ : ∃ W0 : World, W0 = ((w.alloc (.cells #[v1, v2] 56)).alloc (.cells #[.int .i64 s.ts, .int .i64 s.beta, .slice o s.hops.length cap] 203)) := ⟨_, rfl⟩
 rw [← hW0] at hx0 HB0; have cf1 := blk2 HB0.out.1; have cf2 := blk3 HB0.out.2
 go_wp2_with fail
 rw [← hW0]; clear hW0
 go_loopg [5] s.hops.length (fun gk i wr => ∃ k : Nat, gk + k = s.hops.length ∧ i = .int .i64 k ∧ Hid (firstBad t s = badFrom t s (s.hops.length - k) k) ∧ Ext W0 wr)
 case atStart => exact ⟨0, by omega, rfl, Lib.hid rfl, Ext.refl _⟩
 case round =>
  obtain ⟨k, hgk, rfl, HK, hx⟩ := hrel; have HGK := Lib.hid hgk; clear hgk; have hkl : k ≤ s.hops.length := by have h1 := HGK.out; omega
  by_cases hlt : k < s.hops.length
  ·
   obtain ⟨b, off, rfl, hc⟩ := Hop.at (r.ext (hx0.t hx)) k hlt; have h4 : (k : Int) < (s.hops.length : Int) := by omega
   try clear cf1
   try clear cf2
   have cf3 := blk2 (Ext.block hx HB0.out.1); have cf4 := blk3 (Ext.block hx HB0.out.2)
   go_upto_region 4 with (fail)
   refine planStep (.blk [0, 1, 2, 3, 4, 6, 7, 8, 9, 10] (.one 5 (.one 11 (.blk [12] .done)))) [] (by kernel_rfl) (by kernel_rfl) ?_
   try clear cf3
   try clear cf4
   have cf5 := blk2 (Ext.block (hx.t ((Ext.refl _).drew)) HB0.out.1); have cf6 := blk3 (Ext.block (hx.t ((Ext.refl _).drew)) HB0.out.2); have cf7 := Hop.at_ext ((Ext.refl _).drew) hc; refine blkStep (fun K HKK => ?_); simp only [PK]
   go_wp2_with fail
   refine HKK.out _ _ ?_; clear HKK K; refine oneStep (fun K HKK => ?_); simp only [PK]
   go_wp2_with fail
   refine (s_BetaAt s _ (k : Int) _ (r.ext ((hx0.t hx).t ((Ext.refl _).drew))) hl).mono ?_; rintro e w3 ⟨rfl, hzw3⟩
   go_wp2_with fail
   refine HKK.out _ _ hzw3 ?_; clear HKK K; generalize hbe : betaAt s k = be at *; have HBE := Lib.hid hbe; clear hbe; refine oneStep (fun K HKK => ?_); simp only [PK]
   go_wp2_with fail
   refine (s_VerifyHop t _ _ _ be s.hops[k] _ (ha.ext (((hx0.t hx).t ((Ext.refl _).drew)).t hzw3))).mono ?_; rintro e w4 ⟨rfl, hzw4⟩
   go_wp2_with fail
   refine HKK.out _ _ hzw4 ?_; clear HKK K; refine blkStep (fun K HKK => ?_); simp only [PK]
   go_wp2_with fail
   refine HKK.out _ _ ?_; clear HKK K; refine doneStep (by kernel_rfl) ?_; rw [← HBE.out]; clear HBE
   cases b1 : verHop t s.ts (betaAt s k) s.hops[k]
   ·
    have HE := Lib.hid (HK.out.trans (badFrom_no hlt b1))
    try clear cf5
    try clear cf6
    try clear cf7
    have cf8 := blk2 (Ext.block (((hx.t ((Ext.refl _).drew)).t hzw3).t hzw4) HB0.out.1); have cf9 := blk3 (Ext.block (((hx.t ((Ext.refl _).drew)).t hzw3).t hzw4) HB0.out.2); have cf10 := Hop.at_ext ((((Ext.refl _).drew).t hzw3).t hzw4) hc
    go_wp2_with fail
    go_ret
    exact ⟨ret_int HE.out.symm, ((((hx0.t hx).t ((Ext.refl _).drew)).t hzw3).t hzw4)⟩
   ·
    have HE := Lib.hid (HK.out.trans (badFrom_yes hlt b1))
    try clear cf5
    try clear cf6
    try clear cf7
    have cf11 := blk2 (Ext.block (((hx.t ((Ext.refl _).drew)).t hzw3).t hzw4) HB0.out.1); have cf12 := blk3 (Ext.block (((hx.t ((Ext.refl _).drew)).t hzw3).t hzw4) HB0.out.2); have cf13 := Hop.at_ext ((((Ext.refl _).drew).t hzw3).t hzw4) hc
    go_wp2_with fail
    go_roundg (gk - 1)
    case measure => have h1 := HGK.out; omega
    case rel => exact ⟨k + 1, by have h1 := HGK.out; omega, congrArg (Value.int .i64) (by first | omega | (unfold wrap64; omega)), HE, (((hx.t ((Ext.refl _).drew)).t hzw3).t hzw4)⟩
  ·
   obtain rfl : k = s.hops.length := by omega
   have HE : Hid (firstBad t s = -1) := Lib.hid (by have := HK.out; rw [Nat.sub_self] at this; exact this)
   try clear cf1
   try clear cf2
   have cf14 := blk2 (Ext.block hx HB0.out.1); have cf15 := blk3 (Ext.block hx HB0.out.2)
   go_wp2_with fail
   go_ret
   exact ⟨ret_int HE.out.symm, (hx0.t hx)⟩
set_option maxRecDepth 100000 in
set_option maxHeartbeats 1000000 in
theorem s_IsTerminated (s : Seg) (v : Value) (w : World) (r : RdS Hop.rep w v s.hops) :
  Calls Tryz.prog 243 #[.agg #[.int .i64 s.ts, .int .i64 s.beta, v]] w fun e w' => e = .returned (.bool (isTerm s)) ∧ Ext w w' := by
 obtain ⟨o, cap, rfl, hsm⟩ := r.shape; have hx0 : Ext w (w.alloc (.cells #[.int .i64 s.ts, .int .i64 s.beta, .slice o s.hops.length cap] 203)) := (Ext.refl _).alloc _; have HB0 := Lib.hid (blk_new w (.cells #[.int .i64 s.ts, .int .i64 s.beta, .slice o s.hops.length cap] 203))
 go_enter Tryz.func243, Tryz.ntmps243
 have hl0 : s.hops.length = 0 ∨ 0 < s.hops.length := by omega
 rcases hl0 with hl0 | hl0
 ·
  obtain ⟨ts, beta, hops⟩ := s; obtain rfl : hops = [] := List.eq_nil_of_length_eq_zero hl0; have HE := Lib.hid (show isTerm ⟨ts, beta, []⟩ = false from rfl); clear hl0; have cf1 := blk3 HB0.out
  go_wp2_with fail
  go_ret
  exact ⟨ret_bool HE.out.symm, hx0⟩
 ·
  have hlt : s.hops.length - 1 < s.hops.length := by omega
  obtain ⟨b, off, rfl, hc⟩ := Hop.at (r.ext hx0) (s.hops.length - 1) hlt; have HE := Lib.hid (show isTerm s = (s.hops[s.hops.length - 1].eg == 0) by unfold isTerm; rw [hopAt_at hlt, decide_eq_true hl0]; rfl)
  obtain ⟨m, hm⟩ : ∃ m, m = s.hops.length - 1 := ⟨_, rfl⟩
  have hm1 : (s.hops.length : Int) - 1 = (m : Int) := by omega
  have hm2 : m < s.hops.length := by omega
  have h1 : (0 : Int) < (s.hops.length : Int) := by omega
  have hx : s.hops[s.hops.length - 1] = s.hops[m] := by congr 1; omega
  rw [hx] at HE hc; rw [← hm] at hc; clear hx hm hlt; have cf2 := blk3 HB0.out
  go_wp2_with fail
  go_ret
  exact ⟨ret_bool HE.out.symm, hx0⟩
end
section
open Go.ChangeShapes Go.WideShapes Go.ChangeAt Go.RowKit Go.Deep
def wfJoin (t : Topo) (l : List Hop) (i : Nat) : Bool := !(((hopAt l i).eg == 0) && decide (i + 1 < l.length)) && (decide (i = 0) || (((remEnd t (hopAt l (i - 1)).asn (hopAt l (i - 1)).eg).1 == (hopAt l i).asn) && ((remEnd t (hopAt l (i - 1)).asn (hopAt l (i - 1)).eg).2 == (hopAt l i).ing)))
def wfSeg (t : Topo) (s : Seg) : Bool := hopsOk t s.hops && ((hopAt s.hops 0).ing == 0) && allTo (wfJoin t s.hops) s.hops.length
theorem wf_len' {t : Topo} {l : List Hop} (h : hopsOk t l = true) : 1 ≤ l.length ∧ l.length ≤ 8 := by
 unfold hopsOk at h; simp only [Bool.and_eq_true] at h; have := inR_true.1 h.1; omega
theorem wf_no1 {t : Topo} {s : Seg} (h : hopsOk t s.hops = false) : wfSeg t s = false := by unfold wfSeg; rw [h]; rfl
theorem wf_no2 {t : Topo} {s : Seg} (h0 : 0 < s.hops.length) (h : (s.hops[0].ing == 0) = false) : wfSeg t s = false := by unfold wfSeg; rw [hopAt_at h0, h]; simp
theorem wf_no3 {t : Topo} {s : Seg} {k : Nat} (hk : k < s.hops.length) (h : wfJoin t s.hops k = false) : wfSeg t s = false := by unfold wfSeg; rw [allTo_no hk h]; simp
theorem wf_yes {t : Topo} {s : Seg} (h1 : hopsOk t s.hops = true) (h0 : 0 < s.hops.length) (h2 : (s.hops[0].ing == 0) = true) (h3 : allTo (wfJoin t s.hops) s.hops.length = true) : wfSeg t s = true := by unfold wfSeg; rw [h1, hopAt_at h0, h2, h3]; rfl
theorem join_no1 {t : Topo} {l : List Hop} {k : Nat} (hk : k < l.length) (h1 : (l[k].eg == 0) = true) (h2 : k + 1 < l.length) : wfJoin t l k = false := by unfold wfJoin; rw [hopAt_at hk, h1, decide_eq_true h2]; rfl
theorem join_zero {t : Topo} {l : List Hop} (hk : 0 < l.length) (h : (l[0].eg == 0) = false ∨ ¬ 0 + 1 < l.length) : wfJoin t l 0 = true := by
 unfold wfJoin; rw [hopAt_at hk]
 rcases h with h | h
 ·
  rw [h]; rfl
 ·
  rw [decide_eq_false h]; simp
theorem join_at {t : Topo} {l : List Hop} {k : Nat} (hk : k + 1 < l.length) (h : (l[k + 1].eg == 0) = false ∨ ¬ k + 1 + 1 < l.length) :
  wfJoin t l (k + 1) = (((remEnd t l[k].asn l[k].eg).1 == l[k + 1].asn) && ((remEnd t l[k].asn l[k].eg).2 == l[k + 1].ing)) := by
 unfold wfJoin; rw [hopAt_at hk, Nat.add_sub_cancel, hopAt_at (show k < l.length by omega)]
 rcases h with h | h
 ·
  rw [h]; simp
 ·
  rw [decide_eq_false h]; simp
theorem ok_no1 {t : Topo} {l : List Hop} (h : inR (l.length : Int) 1 8 = false) : hopsOk t l = false := by unfold hopsOk; rw [h]; rfl
theorem ok_no2 {t : Topo} {l : List Hop} {k : Nat} (hk : k < l.length) (h : hopFresh t l k = false) : hopsOk t l = false := by unfold hopsOk; rw [allTo_no hk h]; simp
theorem ok_yes {t : Topo} {l : List Hop} (h : inR (l.length : Int) 1 8 = true) (h2 : allTo (hopFresh t l) l.length = true) : hopsOk t l = true := by unfold hopsOk; rw [h, h2]; rfl
theorem fresh_at {t : Topo} {l : List Hop} {k : Nat} (hk : k < l.length) : hopFresh t l k = (validHop l[k] && isAs t l[k].asn && !(hasI ((l.map (·.asn)).take k) l[k].asn)) := by unfold hopFresh; rw [hopAt_at hk]
set_option maxRecDepth 100000 in
set_option maxHeartbeats 8000000 in
theorem s_WellFormed (t : Topo) (v1 v2 : Value) (s : Seg) (v : Value)  (w : World) (ha : RdS ASd.rep w v1 t.ases) (hk : RdS Lnk.rep w v2 t.links) (r : RdS Hop.rep w v s.hops) (hl : s.hops.length ≤ 1048576) :
  Calls Tryz.prog 258 #[.agg #[v1, v2], .agg #[.int .i64 s.ts, .int .i64 s.beta, v]] w fun e w' => e = .returned (.bool (wfSeg t s)) ∧ Ext w w' := by
 obtain ⟨o, cap, rfl, hsm⟩ := r.shape; have hx0 := ext2 w (.cells #[v1, v2] 56) (.cells #[.int .i64 s.ts, .int .i64 s.beta, .slice o s.hops.length cap] 203); have HB0 := Lib.hid (al2 w (.cells #[v1, v2] 56) (.cells #[.int .i64 s.ts, .int .i64 s.beta, .slice o s.hops.length cap] 203))
 go_enter Tryz.func258, Tryz.ntmps258
 obtain ⟨W0, hW0⟩ : ∃ W0 : World, W0 = ((w.alloc (.cells #[v1, v2] 56)).alloc (.cells #[.int .i64 s.ts, .int .i64 s.beta, .slice o s.hops.length cap] 203)) := ⟨_, rfl⟩
 rw [← hW0] at hx0 HB0; have cf1 := blk2 HB0.out.1; have cf2 := blk3 HB0.out.2
 go_wp2_with fail
 rw [← hW0]; clear hW0; refine (s_l1In _ _ _ _).mono ?_; rintro e _ ⟨rfl, rfl⟩
 cases bb : inR (s.hops.length : Int) 1 8
 ·
  have HE := Lib.hid (wf_no1 (s := s) (ok_no1 (t := t) bb))
  go_wp2_with fail
  go_ret
  exact ⟨ret_bool HE.out.symm, hx0⟩
 ·
  have B1 := Lib.hid bb; obtain ⟨hl1, hl8⟩ := inR_true.1 bb; clear bb; have h0 : 0 < s.hops.length := by omega
  obtain ⟨b, off, rfl, hc0⟩ := Hop.at (r.ext hx0) 0 h0; have h00 : (0 : Int) < (s.hops.length : Int) := by omega
  cases b2 : (s.hops[0].ing == 0)
  ·
   have b2' : (s.hops[0].ing != 0) = true := by simp only [bne, b2]; rfl
   have HE := Lib.hid (wf_no2 (t := t) h0 b2)
   go_wp2_with fail
   go_ret
   exact ⟨ret_bool HE.out.symm, hx0⟩
  ·
   have b2' : (s.hops[0].ing != 0) = false := by simp only [bne, b2]; rfl
   have B2 := Lib.hid b2; clear b2
   go_wp2_with fail
   refine (s_SegmentASes s _ _ (r.ext hx0) hl).mono ?_; rintro e w1 ⟨vl, rfl, ol, hz1⟩
   obtain ⟨li, hli⟩ : ∃ li, li = s.hops.map (·.asn) := ⟨_, rfl⟩
   rw [← hli] at ol; have hll : li.length = s.hops.length := by rw [hli]; simp
   have HLI := Lib.hid hli; clear hli; obtain ⟨oa, ca, rfl, _⟩ := (ints_rep ol).shape; have hca := (ints_rep ol).capLe; have rl := ints_rep ol; clear ol; have HLL := Lib.hid hll; clear hll
   try clear cf1
   try clear cf2
   have cf3 := blk2 (Ext.block hz1 HB0.out.1); have cf4 := blk3 (Ext.block hz1 HB0.out.2); have cf5 := Hop.at_ext hz1 hc0
   go_wp2_with fail
   clear b2' hc0
   go_loopg [6] s.hops.length (fun gk i wr => ∃ k : Nat, gk + k = s.hops.length ∧ i = .int .i64 k ∧ Hid (allTo (hopFresh t s.hops) k = true) ∧ Hid (allTo (wfJoin t s.hops) k = true) ∧ Ext w1 wr)
   case atStart => exact ⟨0, by omega, rfl, Lib.hid rfl, Lib.hid rfl, Ext.refl _⟩
   case round =>
    obtain ⟨k, hgk, rfl, HF, HK, hx⟩ := hrel; have HGK := Lib.hid hgk; clear hgk; have hkl : k ≤ s.hops.length := by have h1 := HGK.out; omega
    by_cases hlt : k < s.hops.length
    ·
     obtain ⟨b', off', hbo, hc⟩ := Hop.at (r.ext ((hx0.t hz1).t hx)) k hlt
     cases hbo
     have h4 : (k : Int) < (s.hops.length : Int) := by omega
     have hkli : k ≤ li.length := by rw [HLL.out]; omega
     have hkca : k ≤ ca := Nat.le_trans hkli hca
     try clear cf3
     try clear cf4
     try clear cf5
     have cf6 := blk2 (Ext.block (hz1.t hx) HB0.out.1); have cf7 := blk3 (Ext.block (hz1.t hx) HB0.out.2)
     go_upto_region 8 with (fail)
     try clear cf6
     try clear cf7
     clear hc; have hx1 : Ext wr (wr.alloc (.cells #[.int .i64 s.hops[k].asn, .int .i64 s.hops[k].ing, .int .i64 s.hops[k].eg, .int .i64 s.hops[k].exp, .int .i64 s.hops[k].mac] 71)) := (Ext.refl _).alloc _; have HB1 := Lib.hid (blk_new wr (.cells #[.int .i64 s.hops[k].asn, .int .i64 s.hops[k].ing, .int .i64 s.hops[k].eg, .int .i64 s.hops[k].exp, .int .i64 s.hops[k].mac] 71))
     obtain ⟨wa, hwa⟩ : ∃ wa : World, wa = wr.alloc (.cells #[.int .i64 s.hops[k].asn, .int .i64 s.hops[k].ing, .int .i64 s.hops[k].eg, .int .i64 s.hops[k].exp, .int .i64 s.hops[k].mac] 71) := ⟨_, rfl⟩
     rw [← hwa]; rw [← hwa] at hx1 HB1; clear hwa; have HFA := Lib.hid (fresh_at (t := t) hlt); rw [← HLI.out] at HFA
     cases d1 : validHop s.hops[k]
     ·
      have cf8 := blk2 (Ext.block ((hz1.t hx).t hx1) HB0.out.1); have cf9 := blk3 (Ext.block ((hz1.t hx).t hx1) HB0.out.2); have cf10 := blk5 HB1.out
      go_wp2_with fail
      refine wp_region_ext (by kernel_rfl) (by kernel_rfl) ?_; have q0 := ExtW.cell (cf8.1); have q1 := ExtW.cell (cf8.2); have q2 := ExtW.cell (cf9.1); have q3 := ExtW.cell (cf9.2.1); have q4 := ExtW.cell (cf9.2.2); have q5 := ExtW.cell (cf10.1); have q6 := ExtW.cell (cf10.2.1); have q7 := ExtW.cell (cf10.2.2.1); have q8 := ExtW.cell (cf10.2.2.2.1); have q9 := ExtW.cell (cf10.2.2.2.2)
      repeat (first | go_big_quiet_step (((first | (go_at_call 251; exact Calls.ext_of (s_ValidHop s.hops[k] _))))) | quiet_step (((first | (go_at_call 251; exact Calls.ext_of (s_ValidHop s.hops[k] _))))))
      refine wpQuiet_nil ?_; intro w2 hw2; have hz2 := ExtW.out hw2; clear hw2 q0 q1 q2 q3 q4 q5 q6 q7 q8 q9; have HE := Lib.hid (wf_no1 (s := s) (ok_no2 (t := t) hlt (by rw [HFA.out]; simp [d1])))
      try clear cf8
      try clear cf9
      try clear cf10
      have cf11 := blk2 (Ext.block (((hz1.t hx).t hx1).t hz2) HB0.out.1); have cf12 := blk3 (Ext.block (((hz1.t hx).t hx1).t hz2) HB0.out.2); have cf13 := blk5 (Ext.block hz2 HB1.out)
      go_wp2_with fail
      go_ret
      exact ⟨ret_bool HE.out.symm, ((((hx0.t hz1).t hx).t hx1).t hz2)⟩
     ·
      cases d2 : isAs t s.hops[k].asn
      ·
       have cf14 := blk2 (Ext.block ((hz1.t hx).t hx1) HB0.out.1); have cf15 := blk3 (Ext.block ((hz1.t hx).t hx1) HB0.out.2); have cf16 := blk5 HB1.out
       go_wp2_with fail
       refine wp_region_ext (by kernel_rfl) (by kernel_rfl) ?_; have q0 := ExtW.cell (cf14.1); have q1 := ExtW.cell (cf14.2); have q2 := ExtW.cell (cf15.1); have q3 := ExtW.cell (cf15.2.1); have q4 := ExtW.cell (cf15.2.2); have q5 := ExtW.cell (cf16.1); have q6 := ExtW.cell (cf16.2.1); have q7 := ExtW.cell (cf16.2.2.1); have q8 := ExtW.cell (cf16.2.2.2.1); have q9 := ExtW.cell (cf16.2.2.2.2)
       repeat (first | go_big_quiet_step (((first | (go_at_call 251; exact Calls.ext_of (s_ValidHop s.hops[k] _)) | (go_at_call 212; exact Calls.ext_of (s_l5Realm t _ _ s.hops[k].asn _ ((ha.ext (((hx0.t hz1).t hx).t hx1)).ext (ExtW.h _))))))) | quiet_step (((first | (go_at_call 251; exact Calls.ext_of (s_ValidHop s.hops[k] _)) | (go_at_call 212; exact Calls.ext_of (s_l5Realm t _ _ s.hops[k].asn _ ((ha.ext (((hx0.t hz1).t hx).t hx1)).ext (ExtW.h _))))))))
       refine wpQuiet_nil ?_; intro w3 hw3; have hz3 := ExtW.out hw3; clear hw3 q0 q1 q2 q3 q4 q5 q6 q7 q8 q9; have HE := Lib.hid (wf_no1 (s := s) (ok_no2 (t := t) hlt (by rw [HFA.out]; simp [d1, d2])))
       try clear cf14
       try clear cf15
       try clear cf16
       have cf17 := blk2 (Ext.block (((hz1.t hx).t hx1).t hz3) HB0.out.1); have cf18 := blk3 (Ext.block (((hz1.t hx).t hx1).t hz3) HB0.out.2); have cf19 := blk5 (Ext.block hz3 HB1.out)
       go_wp2_with fail
       go_ret
       exact ⟨ret_bool HE.out.symm, ((((hx0.t hz1).t hx).t hx1).t hz3)⟩
      ·
       cases d3 : hasI (li.take k) s.hops[k].asn
       ·
        have HF2 := Lib.hid (allTo_snoc HF.out (show hopFresh t s.hops k = true by rw [HFA.out, d1, d2, d3]; rfl))
        cases b5 : (s.hops[k].eg == 0)
        ·
         have cf20 := blk2 (Ext.block ((hz1.t hx).t hx1) HB0.out.1); have cf21 := blk3 (Ext.block ((hz1.t hx).t hx1) HB0.out.2); have cf22 := blk5 HB1.out
         go_wp2_with fail
         refine wp_region_ext (by kernel_rfl) (by kernel_rfl) ?_; have q0 := ExtW.cell (cf20.1); have q1 := ExtW.cell (cf20.2); have q2 := ExtW.cell (cf21.1); have q3 := ExtW.cell (cf21.2.1); have q4 := ExtW.cell (cf21.2.2); have q5 := ExtW.cell (cf22.1); have q6 := ExtW.cell (cf22.2.1); have q7 := ExtW.cell (cf22.2.2.1); have q8 := ExtW.cell (cf22.2.2.2.1); have q9 := ExtW.cell (cf22.2.2.2.2)
         repeat (first | go_big_quiet_step (((first | (go_at_call 251; exact Calls.ext_of (s_ValidHop s.hops[k] _)) | (go_at_call 212; exact Calls.ext_of (s_l5Realm t _ _ s.hops[k].asn _ ((ha.ext (((hx0.t hz1).t hx).t hx1)).ext (ExtW.h _)))) | (go_at_call 99; exact Calls.ext_same (s_l9Has (li.take k) _ s.hops[k].asn _ (RdS.pre ((rl.ext (hx.t hx1)).ext (ExtW.h _)) k hkli)))))) | quiet_step (((first | (go_at_call 251; exact Calls.ext_of (s_ValidHop s.hops[k] _)) | (go_at_call 212; exact Calls.ext_of (s_l5Realm t _ _ s.hops[k].asn _ ((ha.ext (((hx0.t hz1).t hx).t hx1)).ext (ExtW.h _)))) | (go_at_call 99; exact Calls.ext_same (s_l9Has (li.take k) _ s.hops[k].asn _ (RdS.pre ((rl.ext (hx.t hx1)).ext (ExtW.h _)) k hkli)))))))
         refine wpQuiet_nil ?_; intro w4 hw4; have hz4 := ExtW.out hw4; clear hw4 q0 q1 q2 q3 q4 q5 q6 q7 q8 q9; have HEND : Hid ((s.hops[k].eg == 0) = false ∨ ¬ k + 1 < s.hops.length) := Lib.hid (.inl b5); clear d1 d2 d3
         rcases Nat.eq_zero_or_pos k with hk0 | hk0
         ·
          have hkz : ¬ (0 : Int) < (k : Int) := by omega
          have HE := Lib.hid (allTo_snoc HK.out (show wfJoin t s.hops k = true by subst hk0; exact join_zero h0 HEND.out)); clear hk0
          try clear cf20
          try clear cf21
          try clear cf22
          have cf23 := blk2 (Ext.block (((hz1.t hx).t hx1).t hz4) HB0.out.1); have cf24 := blk3 (Ext.block (((hz1.t hx).t hx1).t hz4) HB0.out.2); have cf25 := blk5 (Ext.block hz4 HB1.out)
          go_wp2_with fail
          go_roundg (gk - 1)
          case measure => have h1 := HGK.out; omega
          case rel => exact ⟨k + 1, by have h1 := HGK.out; omega, congrArg (Value.int .i64) (by first | omega | (unfold wrap64; omega)), HF2, HE, ((hx.t hx1).t hz4)⟩
         ·
          obtain ⟨j, rfl⟩ : ∃ j, k = j + 1 := ⟨k - 1, by omega⟩
          have hkz : (0 : Int) < ((j + 1 : Nat) : Int) := by omega
          have hj1 : ((j + 1 : Nat) : Int) - 1 = (j : Int) := by omega
          have hjl : j < s.hops.length := by omega
          have hj4 : (j : Int) < (s.hops.length : Int) := by omega
          have HJ := Lib.hid (join_at (t := t) hlt HEND.out); obtain ⟨b2, off2, hbo, hd⟩ := Hop.at (r.ext ((((hx0.t hz1).t hx).t hx1).t hz4)) j hjl
          cases hbo
          try clear cf20
          try clear cf21
          try clear cf22
          have cf26 := blk2 (Ext.block (((hz1.t hx).t hx1).t hz4) HB0.out.1); have cf27 := blk3 (Ext.block (((hz1.t hx).t hx1).t hz4) HB0.out.2); have cf28 := blk5 (Ext.block hz4 HB1.out)
          go_wp2_with fail
          refine wp_region_ext (by kernel_rfl) (by kernel_rfl) ?_; have q0 := ExtW.cell (cf26.1); have q1 := ExtW.cell (cf26.2); have q2 := ExtW.cell (cf27.1); have q3 := ExtW.cell (cf27.2.1); have q4 := ExtW.cell (cf27.2.2); have q5 := ExtW.cell (cf28.1); have q6 := ExtW.cell (cf28.2.1); have q7 := ExtW.cell (cf28.2.2.1); have q8 := ExtW.cell (cf28.2.2.2.1); have q9 := ExtW.cell (cf28.2.2.2.2); have q10 := ExtW.cell (hd.1); have q11 := ExtW.cell (hd.2.1); have q12 := ExtW.cell (hd.2.2.1); have q13 := ExtW.cell (hd.2.2.2.1); have q14 := ExtW.cell (hd.2.2.2.2)
          repeat (first | go_big_quiet_step (((first | (go_at_call 140; exact Calls.ext_of (s_RemoteEnd t _ _ s.hops[j].asn s.hops[j].eg _ ((hk.ext ((((hx0.t hz1).t hx).t hx1).t hz4)).ext (ExtW.h _))))))) | quiet_step (((first | (go_at_call 140; exact Calls.ext_of (s_RemoteEnd t _ _ s.hops[j].asn s.hops[j].eg _ ((hk.ext ((((hx0.t hz1).t hx).t hx1).t hz4)).ext (ExtW.h _))))))))
          refine wpQuiet_nil ?_; intro w5 hw5; have hz5 := ExtW.out hw5; clear hw5 q0 q1 q2 q3 q4 q5 q6 q7 q8 q9 q10 q11 q12 q13 q14; generalize hR : remEnd t s.hops[j].asn s.hops[j].eg = R at *; have HR := Lib.hid hR; clear hR
          cases c1 : (R.1 == s.hops[j + 1].asn)
          ·
           have c1' : (R.1 != s.hops[j + 1].asn) = true := by simp only [bne, c1]; rfl
           have HE := Lib.hid (wf_no3 (t := t) hlt (show wfJoin t s.hops (j + 1) = false by rw [HJ.out]; simp [c1]))
           try clear cf26
           try clear cf27
           try clear cf28
           have cf29 := blk2 (Ext.block ((((hz1.t hx).t hx1).t hz4).t hz5) HB0.out.1); have cf30 := blk3 (Ext.block ((((hz1.t hx).t hx1).t hz4).t hz5) HB0.out.2); have cf31 := blk5 (Ext.block (hz4.t hz5) HB1.out); have cf32 := Hop.at_ext hz5 hd
           go_wp2_with fail
           go_ret
           exact ⟨ret_bool HE.out.symm, (((((hx0.t hz1).t hx).t hx1).t hz4).t hz5)⟩
          ·
           have c1' : (R.1 != s.hops[j + 1].asn) = false := by simp only [bne, c1]; rfl
           cases c2 : (R.2 == s.hops[j + 1].ing)
           ·
            have c2' : (R.2 != s.hops[j + 1].ing) = true := by simp only [bne, c2]; rfl
            have HE := Lib.hid (wf_no3 (t := t) hlt (show wfJoin t s.hops (j + 1) = false by rw [HJ.out]; simp [c2]))
            try clear cf26
            try clear cf27
            try clear cf28
            have cf33 := blk2 (Ext.block ((((hz1.t hx).t hx1).t hz4).t hz5) HB0.out.1); have cf34 := blk3 (Ext.block ((((hz1.t hx).t hx1).t hz4).t hz5) HB0.out.2); have cf35 := blk5 (Ext.block (hz4.t hz5) HB1.out); have cf36 := Hop.at_ext hz5 hd
            go_wp2_with fail
            go_ret
            exact ⟨ret_bool HE.out.symm, (((((hx0.t hz1).t hx).t hx1).t hz4).t hz5)⟩
           ·
            have c2' : (R.2 != s.hops[j + 1].ing) = false := by simp only [bne, c2]; rfl
            have HE := Lib.hid (allTo_snoc HK.out (show wfJoin t s.hops (j + 1) = true by rw [HJ.out, c1, c2]; rfl))
            try clear cf26
            try clear cf27
            try clear cf28
            have cf37 := blk2 (Ext.block ((((hz1.t hx).t hx1).t hz4).t hz5) HB0.out.1); have cf38 := blk3 (Ext.block ((((hz1.t hx).t hx1).t hz4).t hz5) HB0.out.2); have cf39 := blk5 (Ext.block (hz4.t hz5) HB1.out); have cf40 := Hop.at_ext hz5 hd
            go_wp2_with fail
            go_roundg (gk - 1)
            case measure => have h1 := HGK.out; omega
            case rel => exact ⟨j + 1 + 1, by have h1 := HGK.out; omega, congrArg (Value.int .i64) (by first | omega | (unfold wrap64; omega)), HF2, HE, (((hx.t hx1).t hz4).t hz5)⟩
        ·
         have hend : k + 1 < s.hops.length ∨ ¬ k + 1 < s.hops.length := by omega
         rcases hend with hend | hend
         ·
          have h6 : decide ((k : Int) < (s.hops.length : Int) - 1) = true := by simp; omega
          have h6' : (k : Int) < (s.hops.length : Int) - 1 := by omega
          have HE := Lib.hid (wf_no3 (t := t) hlt (join_no1 hlt b5 hend)); clear hend; have cf41 := blk2 (Ext.block ((hz1.t hx).t hx1) HB0.out.1); have cf42 := blk3 (Ext.block ((hz1.t hx).t hx1) HB0.out.2); have cf43 := blk5 HB1.out
          go_wp2_with fail
          refine wp_region_ext (by kernel_rfl) (by kernel_rfl) ?_; have q0 := ExtW.cell (cf41.1); have q1 := ExtW.cell (cf41.2); have q2 := ExtW.cell (cf42.1); have q3 := ExtW.cell (cf42.2.1); have q4 := ExtW.cell (cf42.2.2); have q5 := ExtW.cell (cf43.1); have q6 := ExtW.cell (cf43.2.1); have q7 := ExtW.cell (cf43.2.2.1); have q8 := ExtW.cell (cf43.2.2.2.1); have q9 := ExtW.cell (cf43.2.2.2.2)
          repeat (first | go_big_quiet_step (((first | (go_at_call 251; exact Calls.ext_of (s_ValidHop s.hops[k] _)) | (go_at_call 212; exact Calls.ext_of (s_l5Realm t _ _ s.hops[k].asn _ ((ha.ext (((hx0.t hz1).t hx).t hx1)).ext (ExtW.h _)))) | (go_at_call 99; exact Calls.ext_same (s_l9Has (li.take k) _ s.hops[k].asn _ (RdS.pre ((rl.ext (hx.t hx1)).ext (ExtW.h _)) k hkli)))))) | quiet_step (((first | (go_at_call 251; exact Calls.ext_of (s_ValidHop s.hops[k] _)) | (go_at_call 212; exact Calls.ext_of (s_l5Realm t _ _ s.hops[k].asn _ ((ha.ext (((hx0.t hz1).t hx).t hx1)).ext (ExtW.h _)))) | (go_at_call 99; exact Calls.ext_same (s_l9Has (li.take k) _ s.hops[k].asn _ (RdS.pre ((rl.ext (hx.t hx1)).ext (ExtW.h _)) k hkli)))))))
          refine wpQuiet_nil ?_; intro w6 hw6; have hz6 := ExtW.out hw6; clear hw6 q0 q1 q2 q3 q4 q5 q6 q7 q8 q9
          try clear cf41
          try clear cf42
          try clear cf43
          have cf44 := blk2 (Ext.block (((hz1.t hx).t hx1).t hz6) HB0.out.1); have cf45 := blk3 (Ext.block (((hz1.t hx).t hx1).t hz6) HB0.out.2); have cf46 := blk5 (Ext.block hz6 HB1.out)
          go_wp2_with fail
          go_ret
          exact ⟨ret_bool HE.out.symm, ((((hx0.t hz1).t hx).t hx1).t hz6)⟩
         ·
          have h6 : decide ((k : Int) < (s.hops.length : Int) - 1) = false := by simp; omega
          have h6' : ¬ (k : Int) < (s.hops.length : Int) - 1 := by omega
          have HEND : Hid ((s.hops[k].eg == 0) = false ∨ ¬ k + 1 < s.hops.length) := Lib.hid (.inr hend); clear hend; have cf47 := blk2 (Ext.block ((hz1.t hx).t hx1) HB0.out.1); have cf48 := blk3 (Ext.block ((hz1.t hx).t hx1) HB0.out.2); have cf49 := blk5 HB1.out
          go_wp2_with fail
          refine wp_region_ext (by kernel_rfl) (by kernel_rfl) ?_; have q0 := ExtW.cell (cf47.1); have q1 := ExtW.cell (cf47.2); have q2 := ExtW.cell (cf48.1); have q3 := ExtW.cell (cf48.2.1); have q4 := ExtW.cell (cf48.2.2); have q5 := ExtW.cell (cf49.1); have q6 := ExtW.cell (cf49.2.1); have q7 := ExtW.cell (cf49.2.2.1); have q8 := ExtW.cell (cf49.2.2.2.1); have q9 := ExtW.cell (cf49.2.2.2.2)
          repeat (first | go_big_quiet_step (((first | (go_at_call 251; exact Calls.ext_of (s_ValidHop s.hops[k] _)) | (go_at_call 212; exact Calls.ext_of (s_l5Realm t _ _ s.hops[k].asn _ ((ha.ext (((hx0.t hz1).t hx).t hx1)).ext (ExtW.h _)))) | (go_at_call 99; exact Calls.ext_same (s_l9Has (li.take k) _ s.hops[k].asn _ (RdS.pre ((rl.ext (hx.t hx1)).ext (ExtW.h _)) k hkli)))))) | quiet_step (((first | (go_at_call 251; exact Calls.ext_of (s_ValidHop s.hops[k] _)) | (go_at_call 212; exact Calls.ext_of (s_l5Realm t _ _ s.hops[k].asn _ ((ha.ext (((hx0.t hz1).t hx).t hx1)).ext (ExtW.h _)))) | (go_at_call 99; exact Calls.ext_same (s_l9Has (li.take k) _ s.hops[k].asn _ (RdS.pre ((rl.ext (hx.t hx1)).ext (ExtW.h _)) k hkli)))))))
          refine wpQuiet_nil ?_; intro w7 hw7; have hz7 := ExtW.out hw7; clear hw7 q0 q1 q2 q3 q4 q5 q6 q7 q8 q9; clear d1 d2 d3
          rcases Nat.eq_zero_or_pos k with hk0 | hk0
          ·
           have hkz : ¬ (0 : Int) < (k : Int) := by omega
           have HE := Lib.hid (allTo_snoc HK.out (show wfJoin t s.hops k = true by subst hk0; exact join_zero h0 HEND.out)); clear hk0
           try clear cf47
           try clear cf48
           try clear cf49
           have cf50 := blk2 (Ext.block (((hz1.t hx).t hx1).t hz7) HB0.out.1); have cf51 := blk3 (Ext.block (((hz1.t hx).t hx1).t hz7) HB0.out.2); have cf52 := blk5 (Ext.block hz7 HB1.out)
           go_wp2_with fail
           go_roundg (gk - 1)
           case measure => have h1 := HGK.out; omega
           case rel => exact ⟨k + 1, by have h1 := HGK.out; omega, congrArg (Value.int .i64) (by first | omega | (unfold wrap64; omega)), HF2, HE, ((hx.t hx1).t hz7)⟩
          ·
           obtain ⟨j, rfl⟩ : ∃ j, k = j + 1 := ⟨k - 1, by omega⟩
           have hkz : (0 : Int) < ((j + 1 : Nat) : Int) := by omega
           have hj1 : ((j + 1 : Nat) : Int) - 1 = (j : Int) := by omega
           have hjl : j < s.hops.length := by omega
           have hj4 : (j : Int) < (s.hops.length : Int) := by omega
           have HJ := Lib.hid (join_at (t := t) hlt HEND.out); obtain ⟨b2, off2, hbo, hd⟩ := Hop.at (r.ext ((((hx0.t hz1).t hx).t hx1).t hz7)) j hjl
           cases hbo
           try clear cf47
           try clear cf48
           try clear cf49
           have cf53 := blk2 (Ext.block (((hz1.t hx).t hx1).t hz7) HB0.out.1); have cf54 := blk3 (Ext.block (((hz1.t hx).t hx1).t hz7) HB0.out.2); have cf55 := blk5 (Ext.block hz7 HB1.out)
           go_wp2_with fail
           refine wp_region_ext (by kernel_rfl) (by kernel_rfl) ?_; have q0 := ExtW.cell (cf53.1); have q1 := ExtW.cell (cf53.2); have q2 := ExtW.cell (cf54.1); have q3 := ExtW.cell (cf54.2.1); have q4 := ExtW.cell (cf54.2.2); have q5 := ExtW.cell (cf55.1); have q6 := ExtW.cell (cf55.2.1); have q7 := ExtW.cell (cf55.2.2.1); have q8 := ExtW.cell (cf55.2.2.2.1); have q9 := ExtW.cell (cf55.2.2.2.2); have q10 := ExtW.cell (hd.1); have q11 := ExtW.cell (hd.2.1); have q12 := ExtW.cell (hd.2.2.1); have q13 := ExtW.cell (hd.2.2.2.1); have q14 := ExtW.cell (hd.2.2.2.2)
           repeat (first | go_big_quiet_step (((first | (go_at_call 140; exact Calls.ext_of (s_RemoteEnd t _ _ s.hops[j].asn s.hops[j].eg _ ((hk.ext ((((hx0.t hz1).t hx).t hx1).t hz7)).ext (ExtW.h _))))))) | quiet_step (((first | (go_at_call 140; exact Calls.ext_of (s_RemoteEnd t _ _ s.hops[j].asn s.hops[j].eg _ ((hk.ext ((((hx0.t hz1).t hx).t hx1).t hz7)).ext (ExtW.h _))))))))
           refine wpQuiet_nil ?_; intro w8 hw8; have hz8 := ExtW.out hw8; clear hw8 q0 q1 q2 q3 q4 q5 q6 q7 q8 q9 q10 q11 q12 q13 q14; generalize hR : remEnd t s.hops[j].asn s.hops[j].eg = R at *; have HR := Lib.hid hR; clear hR
           cases c1 : (R.1 == s.hops[j + 1].asn)
           ·
            have c1' : (R.1 != s.hops[j + 1].asn) = true := by simp only [bne, c1]; rfl
            have HE := Lib.hid (wf_no3 (t := t) hlt (show wfJoin t s.hops (j + 1) = false by rw [HJ.out]; simp [c1]))
            try clear cf53
            try clear cf54
            try clear cf55
            have cf56 := blk2 (Ext.block ((((hz1.t hx).t hx1).t hz7).t hz8) HB0.out.1); have cf57 := blk3 (Ext.block ((((hz1.t hx).t hx1).t hz7).t hz8) HB0.out.2); have cf58 := blk5 (Ext.block (hz7.t hz8) HB1.out); have cf59 := Hop.at_ext hz8 hd
            go_wp2_with fail
            go_ret
            exact ⟨ret_bool HE.out.symm, (((((hx0.t hz1).t hx).t hx1).t hz7).t hz8)⟩
           ·
            have c1' : (R.1 != s.hops[j + 1].asn) = false := by simp only [bne, c1]; rfl
            cases c2 : (R.2 == s.hops[j + 1].ing)
            ·
             have c2' : (R.2 != s.hops[j + 1].ing) = true := by simp only [bne, c2]; rfl
             have HE := Lib.hid (wf_no3 (t := t) hlt (show wfJoin t s.hops (j + 1) = false by rw [HJ.out]; simp [c2]))
             try clear cf53
             try clear cf54
             try clear cf55
             have cf60 := blk2 (Ext.block ((((hz1.t hx).t hx1).t hz7).t hz8) HB0.out.1); have cf61 := blk3 (Ext.block ((((hz1.t hx).t hx1).t hz7).t hz8) HB0.out.2); have cf62 := blk5 (Ext.block (hz7.t hz8) HB1.out); have cf63 := Hop.at_ext hz8 hd
             go_wp2_with fail
             go_ret
             exact ⟨ret_bool HE.out.symm, (((((hx0.t hz1).t hx).t hx1).t hz7).t hz8)⟩
            ·
             have c2' : (R.2 != s.hops[j + 1].ing) = false := by simp only [bne, c2]; rfl
             have HE := Lib.hid (allTo_snoc HK.out (show wfJoin t s.hops (j + 1) = true by rw [HJ.out, c1, c2]; rfl))
             try clear cf53
             try clear cf54
             try clear cf55
             have cf64 := blk2 (Ext.block ((((hz1.t hx).t hx1).t hz7).t hz8) HB0.out.1); have cf65 := blk3 (Ext.block ((((hz1.t hx).t hx1).t hz7).t hz8) HB0.out.2); have cf66 := blk5 (Ext.block (hz7.t hz8) HB1.out); have cf67 := Hop.at_ext hz8 hd
             go_wp2_with fail
             go_roundg (gk - 1)
             case measure => have h1 := HGK.out; omega
             case rel => exact ⟨j + 1 + 1, by have h1 := HGK.out; omega, congrArg (Value.int .i64) (by first | omega | (unfold wrap64; omega)), HF2, HE, (((hx.t hx1).t hz7).t hz8)⟩
       ·
        have cf68 := blk2 (Ext.block ((hz1.t hx).t hx1) HB0.out.1); have cf69 := blk3 (Ext.block ((hz1.t hx).t hx1) HB0.out.2); have cf70 := blk5 HB1.out
        go_wp2_with fail
        refine wp_region_ext (by kernel_rfl) (by kernel_rfl) ?_; have q0 := ExtW.cell (cf68.1); have q1 := ExtW.cell (cf68.2); have q2 := ExtW.cell (cf69.1); have q3 := ExtW.cell (cf69.2.1); have q4 := ExtW.cell (cf69.2.2); have q5 := ExtW.cell (cf70.1); have q6 := ExtW.cell (cf70.2.1); have q7 := ExtW.cell (cf70.2.2.1); have q8 := ExtW.cell (cf70.2.2.2.1); have q9 := ExtW.cell (cf70.2.2.2.2)
        repeat (first | go_big_quiet_step (((first | (go_at_call 251; exact Calls.ext_of (s_ValidHop s.hops[k] _)) | (go_at_call 212; exact Calls.ext_of (s_l5Realm t _ _ s.hops[k].asn _ ((ha.ext (((hx0.t hz1).t hx).t hx1)).ext (ExtW.h _)))) | (go_at_call 99; exact Calls.ext_same (s_l9Has (li.take k) _ s.hops[k].asn _ (RdS.pre ((rl.ext (hx.t hx1)).ext (ExtW.h _)) k hkli)))))) | quiet_step (((first | (go_at_call 251; exact Calls.ext_of (s_ValidHop s.hops[k] _)) | (go_at_call 212; exact Calls.ext_of (s_l5Realm t _ _ s.hops[k].asn _ ((ha.ext (((hx0.t hz1).t hx).t hx1)).ext (ExtW.h _)))) | (go_at_call 99; exact Calls.ext_same (s_l9Has (li.take k) _ s.hops[k].asn _ (RdS.pre ((rl.ext (hx.t hx1)).ext (ExtW.h _)) k hkli)))))))
        refine wpQuiet_nil ?_; intro w9 hw9; have hz9 := ExtW.out hw9; clear hw9 q0 q1 q2 q3 q4 q5 q6 q7 q8 q9; have HE := Lib.hid (wf_no1 (s := s) (ok_no2 (t := t) hlt (by rw [HFA.out]; simp [d1, d2, d3])))
        try clear cf68
        try clear cf69
        try clear cf70
        have cf71 := blk2 (Ext.block (((hz1.t hx).t hx1).t hz9) HB0.out.1); have cf72 := blk3 (Ext.block (((hz1.t hx).t hx1).t hz9) HB0.out.2); have cf73 := blk5 (Ext.block hz9 HB1.out)
        go_wp2_with fail
        go_ret
        exact ⟨ret_bool HE.out.symm, ((((hx0.t hz1).t hx).t hx1).t hz9)⟩
    ·
     obtain rfl : k = s.hops.length := by omega
     have HE := Lib.hid (wf_yes (ok_yes B1.out HF.out) h0 B2.out HK.out)
     try clear cf3
     try clear cf4
     try clear cf5
     have cf74 := blk2 (Ext.block (hz1.t hx) HB0.out.1); have cf75 := blk3 (Ext.block (hz1.t hx) HB0.out.2)
     go_wp2_with fail
     go_ret
     exact ⟨ret_bool HE.out.symm, ((hx0.t hz1).t hx)⟩
end
end Go.Proofs.YtcpfmhgfaliemaaGreat
