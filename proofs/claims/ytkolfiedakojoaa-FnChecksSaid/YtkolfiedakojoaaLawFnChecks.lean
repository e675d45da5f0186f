/- The least expiry of a row of hop fields. No condition but the bounds that the theorem names. Contracts of what is checked of segments: the first hop that does not verify, ends, expiries, codes struck out. No condition but the bounds that each theorem names. Contracts of well-formed segments, their kinds, and valid and usable ones, program and reference. No condition but the bounds that each theorem names. Contracts of the kinds of segments, and of valid and usable ones, program and reference. No condition but the bounds that each theorem names. Contracts of valid and usable segments, of expiries and of codes struck out, program and reference. No condition but the bounds that each theorem names. Draws of what is checked of segments. No condition but the bounds that each theorem names. A sealed segment with one thing changed has a hop that does not verify: plain laws. No condition. The walk of the law over checks: a segment with one field of one hop changed has a hop that does not verify, there or after it. No condition. The law FnChecks: for every input the call returns true, and each argument reads afterwards as it read before. No condition. -/
import Derived.Test.YtkolfiedakojoaaPlain28
import Derived.Deep.LoopGhost
import Derived.Test.YtkolfiedakojoaaW09x
import Derived.Test.YtkolfiedakojoaaW21v
import Derived.Test.YtkolfiedakojoaaW09j
import Derived.Test.YtkolfiedakojoaaAppE
namespace Go.Proofs.Ytkolfiedakojoaa
open Go.ChangeShapes Go.WideShapes Go.ChangeAt Go.RowKit Go.Deep

theorem least_snoc {l : List Hop} {k : Nat} (hk : k < l.length) : leastExp (l.take (k + 1)) = if k = 0 ∨ l[k].exp < leastExp (l.take k) then l[k].exp else leastExp (l.take k) := by
  cases l with
  | nil => simp at hk
  | cons x l =>
    cases k with
    | zero => simp [leastExp]
    | succ k =>
      have hk' : k < l.length := by simpa using hk
      simp only [List.take_succ_cons, leastExp, List.getElem_cons_succ]
      rw [List.take_succ_eq_append_getElem hk', List.foldl_append]
      simp
set_option maxRecDepth 100000 in
set_option maxHeartbeats 2000000 in
theorem i_leastExpiry (l : List Hop) (v : Value) (w : World) (hv : RdS Hop.rep w v l) :
    Calls Try.prog 146 #[v] w fun e w' => e = .returned (.int .i64 (leastExp l)) ∧ Ext w w' := by
  obtain ⟨o, cap, rfl, hsm⟩ := hv.shape
  go_enter Try.func146, Try.ntmps146
  go_wp2
  go_loopg [3, 8] l.length (fun gk n i wr => ∃ k : Nat, gk + k = l.length ∧ i = .int .i64 k ∧ n = .int .i64 (leastExp (l.take k)) ∧ Ext w wr)
  case atStart => exact ⟨0, rfl, rfl, rfl, Ext.refl _⟩
  case round =>
    obtain ⟨k, hgk, rfl, rfl, hx⟩ := hrel
    by_cases hlt : k < l.length
    · have HG := Lib.hid (show gk - 1 + (k + 1) = l.length ∧ gk - 1 < gk by omega); clear hgk
      have HS := Lib.hid (least_snoc hlt)
      obtain ⟨b, off, rfl, hc⟩ := Hop.at (hv.ext hx) k hlt
      generalize leastExp (l.take k) = m at *
      by_cases h0 : k = 0
      · have h1 : ((k : Int) == 0) = true := by rw [h0]; rfl
        have HE := Lib.hid (HS.out.trans (if_pos (.inl h0)))
        clear h0
        go_wp2
        go_roundg (gk - 1)
        case measure => exact HG.out.2
        case rel => exact ⟨k + 1, HG.out.1, by go_num, by rw [HE.out], hx.alloc _⟩
      · have h1 : ((k : Int) == 0) = false := by rw [beq_eq_false_iff_ne]; omega
        by_cases h2 : l[k].exp < m
        · have HE := Lib.hid (HS.out.trans (if_pos (.inr h2)))
          clear h0
          go_wp2
          go_roundg (gk - 1)
          case measure => exact HG.out.2
          case rel => exact ⟨k + 1, HG.out.1, by go_num, by rw [HE.out], hx.alloc _⟩
        · have HE := Lib.hid (HS.out.trans (if_neg (show ¬ (k = 0 ∨ l[k].exp < m) by omega)))
          clear h0
          go_wp2
          go_roundg (gk - 1)
          case measure => exact HG.out.2
          case rel => exact ⟨k + 1, HG.out.1, by go_num, by rw [HE.out], hx.alloc _⟩
    · have HE := Lib.hid (show leastExp (l.take k) = leastExp l by rw [List.take_of_length_le (by omega)])
      generalize leastExp (l.take k) = m at *
      go_wp2_with fail
      go_ret
      exact ⟨ret_int HE.out, hx⟩

def strip (l : List Hop) : List Hop := l.map (fun h => { h with mac := 0 })
/-- The kth hop is of the AS and verifies. -/
def authAt (t : Topo) (s : Seg) (r : Int) (k : Nat) : Bool := ((hopAt s.hops k).asn == r) && verHop t s.ts (betaAt s k) (hopAt s.hops k)
def authBy (t : Topo) (s : Seg) (r : Int) : Bool := !(allTo (fun k => !(authAt t s r k)) s.hops.length)
def isTerm (s : Seg) : Bool := decide (0 < s.hops.length) && ((hopAt s.hops (s.hops.length - 1)).eg == 0)
theorem least_next {l : List Hop} {k : Nat} (h0 : 0 < k) (hk : k < l.length) : leastExp (l.take (k + 1)) = if l[k].exp < leastExp (l.take k) then l[k].exp else leastExp (l.take k) := by
  have h := least_snoc hk
  rw [h]
  by_cases h1 : l[k].exp < leastExp (l.take k)
  · rw [if_pos (.inr h1), if_pos h1]
  · rw [if_neg (by omega), if_neg h1]
theorem least_one {l : List Hop} (h : 0 < l.length) : leastExp (l.take 1) = l[0].exp := by
  cases l with
  | nil => simp at h
  | cons x l => rfl
theorem authBy_yes {t : Topo} {s : Seg} {r : Int} {k : Nat} (hk : k < s.hops.length) (h1 : (s.hops[k].asn == r) = true) (h2 : verHop t s.ts (betaAt s k) s.hops[k] = true) : authBy t s r = true := by
  have : allTo (fun k => !(authAt t s r k)) s.hops.length = false := allTo_no hk (by simp only [authAt, hopAt_at hk, h1, h2]; rfl)
  unfold authBy; rw [this]; rfl
theorem authBy_no {t : Topo} {s : Seg} {r : Int} (h : allTo (fun k => !(authAt t s r k)) s.hops.length = true) : authBy t s r = false := by unfold authBy; rw [h]; rfl
theorem auth_not1 {t : Topo} {s : Seg} {r : Int} {k : Nat} (hk : k < s.hops.length) (h : (s.hops[k].asn == r) = false) : (!(authAt t s r k)) = true := by simp only [authAt, hopAt_at hk, h]; rfl
theorem auth_not2 {t : Topo} {s : Seg} {r : Int} {k : Nat} (hk : k < s.hops.length) (h : verHop t s.ts (betaAt s k) s.hops[k] = false) : (!(authAt t s r k)) = true := by simp only [authAt, hopAt_at hk, h, Bool.and_false]; rfl

set_option maxRecDepth 100000 in
set_option maxHeartbeats 4000000 in
theorem s_FirstInvalidHop (t : Topo) (v1 v2 : Value) (s : Seg) (v : Value) (w : World) (ha : RdS ASd.rep w v1 t.ases) (r : RdS Hop.rep w v s.hops) (hl : s.hops.length ≤ 1048576) :
    Calls Try.prog 48 #[.agg #[v1, v2], .agg #[.int .i64 s.ts, .int .i64 s.beta, v]] w fun e w' => e = .returned (.int .i64 (firstBad t s)) ∧ Ext w w' := by
  obtain ⟨o, cap, rfl, hsm⟩ := r.shape
  have hx0 := ext2 w (.cells #[v1, v2] 59) (.cells #[.int .i64 s.ts, .int .i64 s.beta, .slice o s.hops.length cap] 62)
  have HB0 := Lib.hid (al2 w (.cells #[v1, v2] 59) (.cells #[.int .i64 s.ts, .int .i64 s.beta, .slice o s.hops.length cap] 62))
  go_enter Try.func48, Try.ntmps48
  obtain ⟨W0, hW0⟩ : ∃ W0 : World, W0 = ((w.alloc (.cells #[v1, v2] 59)).alloc (.cells #[.int .i64 s.ts, .int .i64 s.beta, .slice o s.hops.length cap] 62)) := ⟨_, rfl⟩
  rw [← hW0] at hx0 HB0
  have cf1 := blk2 HB0.out.1
  have cf2 := blk3 HB0.out.2
  go_wp2_with fail
  rw [← hW0]
  clear hW0
  go_loopg [5] s.hops.length (fun gk i wr => ∃ k : Nat, gk + k = s.hops.length ∧ i = .int .i64 k ∧ Hid (firstBad t s = badFrom t s (s.hops.length - k) k) ∧ Ext W0 wr)
  case atStart => exact ⟨0, by omega, rfl, Lib.hid rfl, Ext.refl _⟩
  case round =>
    obtain ⟨k, hgk, rfl, HK, hx⟩ := hrel
    have HGK := Lib.hid hgk
    clear hgk
    have hkl : k ≤ s.hops.length := by have h1 := HGK.out; omega
    by_cases hlt : k < s.hops.length
    · obtain ⟨b, off, rfl, hc⟩ := Hop.at (r.ext (hx0.trans hx)) k hlt
      have h4 : (k : Int) < (s.hops.length : Int) := by omega
      try clear cf1
      try clear cf2
      have cf3 := blk2 (Ext.block hx HB0.out.1)
      have cf4 := blk3 (Ext.block hx HB0.out.2)
      go_upto_region 4 with (fail)
      refine planStep (.blk [0, 1, 2, 3, 4, 6, 7, 8, 9, 10] (.one 5 (.one 11 (.blk [12] .done)))) [] (by kernel_rfl) (by kernel_rfl) ?_
      try clear cf3
      try clear cf4
      have cf5 := blk2 (Ext.block (hx.trans ((Ext.refl _).drew)) HB0.out.1)
      have cf6 := blk3 (Ext.block (hx.trans ((Ext.refl _).drew)) HB0.out.2)
      have cf7 := Hop.at_ext ((Ext.refl _).drew) hc
      refine blkStep (fun K HKK => ?_)
      simp only [pick, List.filterMap_cons, List.filterMap_nil, List.getElem?_toArray, List.getElem?_cons_zero, List.getElem?_cons_succ]
      go_wp2_with fail
      refine HKK.out _ _ ?_
      clear HKK K
      refine oneStep (fun K HKK => ?_)
      simp only [pick, List.filterMap_cons, List.filterMap_nil, List.getElem?_toArray, List.getElem?_cons_zero, List.getElem?_cons_succ]
      go_wp2_with fail
      refine (s_BetaAt s _ (k : Int) _ (r.ext ((hx0.trans hx).trans ((Ext.refl _).drew))) hl).mono ?_
      rintro e w3 ⟨rfl, hzw3⟩
      go_wp2_with fail
      refine HKK.out _ _ hzw3 ?_
      clear HKK K
      generalize hbe : betaAt s k = be at *
      have HBE := Lib.hid hbe; clear hbe
      refine oneStep (fun K HKK => ?_)
      simp only [pick, List.filterMap_cons, List.filterMap_nil, List.getElem?_toArray, List.getElem?_cons_zero, List.getElem?_cons_succ]
      go_wp2_with fail
      refine (s_VerifyHop t _ _ _ be s.hops[k] _ (ha.ext (((hx0.trans hx).trans ((Ext.refl _).drew)).trans hzw3))).mono ?_
      rintro e w4 ⟨rfl, hzw4⟩
      go_wp2_with fail
      refine HKK.out _ _ hzw4 ?_
      clear HKK K
      refine blkStep (fun K HKK => ?_)
      simp only [pick, List.filterMap_cons, List.filterMap_nil, List.getElem?_toArray, List.getElem?_cons_zero, List.getElem?_cons_succ]
      go_wp2_with fail
      refine HKK.out _ _ ?_
      clear HKK K
      refine doneStep (by kernel_rfl) ?_
      rw [← HBE.out]
      clear HBE
      cases b1 : verHop t s.ts (betaAt s k) s.hops[k]
      · have HE := Lib.hid (HK.out.trans (badFrom_no hlt b1))
        try clear cf5
        try clear cf6
        try clear cf7
        have cf8 := blk2 (Ext.block (((hx.trans ((Ext.refl _).drew)).trans hzw3).trans hzw4) HB0.out.1)
        have cf9 := blk3 (Ext.block (((hx.trans ((Ext.refl _).drew)).trans hzw3).trans hzw4) HB0.out.2)
        have cf10 := Hop.at_ext ((((Ext.refl _).drew).trans hzw3).trans hzw4) hc
        go_wp2_with fail
        go_ret
        exact ⟨ret_int HE.out.symm, ((((hx0.trans hx).trans ((Ext.refl _).drew)).trans hzw3).trans hzw4)⟩
      · have HE := Lib.hid (HK.out.trans (badFrom_yes hlt b1))
        try clear cf5
        try clear cf6
        try clear cf7
        have cf11 := blk2 (Ext.block (((hx.trans ((Ext.refl _).drew)).trans hzw3).trans hzw4) HB0.out.1)
        have cf12 := blk3 (Ext.block (((hx.trans ((Ext.refl _).drew)).trans hzw3).trans hzw4) HB0.out.2)
        have cf13 := Hop.at_ext ((((Ext.refl _).drew).trans hzw3).trans hzw4) hc
        go_wp2_with fail
        go_roundg (gk - 1)
        case measure => have h1 := HGK.out; omega
        case rel => exact ⟨k + 1, by have h1 := HGK.out; omega, congrArg (Value.int .i64) (by first | omega | (unfold wrap64; omega)), HE, (((hx.trans ((Ext.refl _).drew)).trans hzw3).trans hzw4)⟩
    · obtain rfl : k = s.hops.length := by omega
      have HE : Hid (firstBad t s = -1) := Lib.hid (by have := HK.out; rw [Nat.sub_self] at this; exact this)
      try clear cf1
      try clear cf2
      have cf14 := blk2 (Ext.block hx HB0.out.1)
      have cf15 := blk3 (Ext.block hx HB0.out.2)
      go_wp2_with fail
      go_ret
      exact ⟨ret_int HE.out.symm, (hx0.trans hx)⟩

set_option maxRecDepth 100000 in
set_option maxHeartbeats 4000000 in
theorem i_AuthenticatedBy (t : Topo) (v1 v2 : Value) (s : Seg) (v : Value) (rr : Int) (w : World) (ha : RdS ASd.rep w v1 t.ases) (r : RdS Hop.rep w v s.hops) (hl : s.hops.length ≤ 1048576) :
    Calls Try.prog 55 #[.agg #[v1, v2], .agg #[.int .i64 s.ts, .int .i64 s.beta, v], .int .i64 rr] w fun e w' => e = .returned (.bool (authBy t s rr)) ∧ Ext w w' := by
  obtain ⟨o, cap, rfl, hsm⟩ := r.shape
  have hx0 := ext2 w (.cells #[v1, v2] 59) (.cells #[.int .i64 s.ts, .int .i64 s.beta, .slice o s.hops.length cap] 62)
  have HB0 := Lib.hid (al2 w (.cells #[v1, v2] 59) (.cells #[.int .i64 s.ts, .int .i64 s.beta, .slice o s.hops.length cap] 62))
  go_enter Try.func55, Try.ntmps55
  obtain ⟨W0, hW0⟩ : ∃ W0 : World, W0 = ((w.alloc (.cells #[v1, v2] 59)).alloc (.cells #[.int .i64 s.ts, .int .i64 s.beta, .slice o s.hops.length cap] 62)) := ⟨_, rfl⟩
  rw [← hW0] at hx0 HB0
  have cf1 := blk2 HB0.out.1
  have cf2 := blk3 HB0.out.2
  go_wp2_with fail
  rw [← hW0]
  clear hW0
  go_loopg [12] s.hops.length (fun gk i wr => ∃ k : Nat, gk + k = s.hops.length ∧ i = .int .i64 k ∧ Hid (allTo (fun k => !(authAt t s rr k)) k = true) ∧ Ext W0 wr)
  case atStart => exact ⟨0, by omega, rfl, Lib.hid rfl, Ext.refl _⟩
  case round =>
    obtain ⟨k, hgk, rfl, HK, hx⟩ := hrel
    have HGK := Lib.hid hgk
    clear hgk
    have hkl : k ≤ s.hops.length := by have h1 := HGK.out; omega
    by_cases hlt : k < s.hops.length
    · obtain ⟨b, off, rfl, hc⟩ := Hop.at (r.ext (hx0.trans hx)) k hlt
      have h4 : (k : Int) < (s.hops.length : Int) := by omega
      try clear cf1
      try clear cf2
      have cf3 := blk2 (Ext.block hx HB0.out.1)
      have cf4 := blk3 (Ext.block hx HB0.out.2)
      go_upto_region 4 with (fail)
      try clear cf3
      try clear cf4
      clear hc
      have hx1 : Ext wr (wr.alloc (.cells #[.int .i64 s.hops[k].asn, .int .i64 s.hops[k].ing, .int .i64 s.hops[k].eg, .int .i64 s.hops[k].exp, .int .i64 s.hops[k].mac] 73)) := (Ext.refl _).alloc _
      have HB1 := Lib.hid (blk_new wr (.cells #[.int .i64 s.hops[k].asn, .int .i64 s.hops[k].ing, .int .i64 s.hops[k].eg, .int .i64 s.hops[k].exp, .int .i64 s.hops[k].mac] 73))
      obtain ⟨wa, hwa⟩ : ∃ wa : World, wa = wr.alloc (.cells #[.int .i64 s.hops[k].asn, .int .i64 s.hops[k].ing, .int .i64 s.hops[k].eg, .int .i64 s.hops[k].exp, .int .i64 s.hops[k].mac] 73) := ⟨_, rfl⟩
      rw [← hwa]
      rw [← hwa] at hx1 HB1
      clear hwa
      cases b0 : (s.hops[k].asn == rr)
      · refine planStep (.blk [0, 1, 2, 3, 4, 5, 6, 7, 8, 9, 11] (.one 10 (.one 12 (.blk [13] .done)))) [] (by kernel_rfl) (by kernel_rfl) ?_
        have cf5 := blk2 (Ext.block ((hx.trans hx1).trans ((Ext.refl _).drew)) HB0.out.1)
        have cf6 := blk3 (Ext.block ((hx.trans hx1).trans ((Ext.refl _).drew)) HB0.out.2)
        have cf7 := blk5 (Ext.block ((Ext.refl _).drew) HB1.out)
        refine blkStep (fun K HKK => ?_)
        simp only [pick, List.filterMap_cons, List.filterMap_nil, List.getElem?_toArray, List.getElem?_cons_zero, List.getElem?_cons_succ]
        go_wp2_with fail
        refine HKK.out _ _ ?_
        clear HKK K
        refine oneSkip [27] (by kernel_rfl) ?_
        simp only [undefs, Act.put, List.setIfInBounds_toArray, List.set_cons_succ, List.set_cons_zero]
        refine oneSkip [29] (by kernel_rfl) ?_
        simp only [undefs, Act.put, List.setIfInBounds_toArray, List.set_cons_succ, List.set_cons_zero]
        refine blkStep (fun K HKK => ?_)
        simp only [pick, List.filterMap_cons, List.filterMap_nil, List.getElem?_toArray, List.getElem?_cons_zero, List.getElem?_cons_succ]
        go_wp2_with fail
        refine HKK.out _ _ ?_
        clear HKK K
        refine doneStep (by kernel_rfl) ?_
        have HE := Lib.hid (allTo_snoc HK.out (auth_not1 (t := t) (r := rr) hlt b0))
        go_wp2_with fail
        go_roundg (gk - 1)
        case measure => have h1 := HGK.out; omega
        case rel => exact ⟨k + 1, by have h1 := HGK.out; omega, congrArg (Value.int .i64) (by first | omega | (unfold wrap64; omega)), HE, ((hx.trans hx1).trans ((Ext.refl _).drew))⟩
      · refine planStep (.blk [0, 1, 2, 3, 4, 5, 6, 7, 8, 9, 11] (.one 10 (.one 12 (.blk [13] .done)))) [] (by kernel_rfl) (by kernel_rfl) ?_
        have cf8 := blk2 (Ext.block ((hx.trans hx1).trans ((Ext.refl _).drew)) HB0.out.1)
        have cf9 := blk3 (Ext.block ((hx.trans hx1).trans ((Ext.refl _).drew)) HB0.out.2)
        have cf10 := blk5 (Ext.block ((Ext.refl _).drew) HB1.out)
        refine blkStep (fun K HKK => ?_)
        simp only [pick, List.filterMap_cons, List.filterMap_nil, List.getElem?_toArray, List.getElem?_cons_zero, List.getElem?_cons_succ]
        go_wp2_with fail
        refine HKK.out _ _ ?_
        clear HKK K
        refine oneStep (fun K HKK => ?_)
        simp only [pick, List.filterMap_cons, List.filterMap_nil, List.getElem?_toArray, List.getElem?_cons_zero, List.getElem?_cons_succ]
        go_wp2_with fail
        refine (i_BetaAt s _ (k : Int) _ (r.ext (((hx0.trans hx).trans hx1).trans ((Ext.refl _).drew))) hl).mono ?_
        rintro e w3 ⟨rfl, hzw3⟩
        go_wp2_with fail
        refine HKK.out _ _ hzw3 ?_
        clear HKK K
        generalize hbe : betaAt s k = be at *
        have HBE := Lib.hid hbe; clear hbe
        refine oneStep (fun K HKK => ?_)
        simp only [pick, List.filterMap_cons, List.filterMap_nil, List.getElem?_toArray, List.getElem?_cons_zero, List.getElem?_cons_succ]
        go_wp2_with fail
        refine (i_VerifyHop t _ _ _ be s.hops[k] _ (ha.ext ((((hx0.trans hx).trans hx1).trans ((Ext.refl _).drew)).trans hzw3))).mono ?_
        rintro e w4 ⟨rfl, hzw4⟩
        go_wp2_with fail
        refine HKK.out _ _ hzw4 ?_
        clear HKK K
        refine blkStep (fun K HKK => ?_)
        simp only [pick, List.filterMap_cons, List.filterMap_nil, List.getElem?_toArray, List.getElem?_cons_zero, List.getElem?_cons_succ]
        go_wp2_with fail
        refine HKK.out _ _ ?_
        clear HKK K
        refine doneStep (by kernel_rfl) ?_
        rw [← HBE.out]
        clear HBE
        cases b1 : verHop t s.ts (betaAt s k) s.hops[k]
        · have HE := Lib.hid (allTo_snoc HK.out (auth_not2 (t := t) (r := rr) hlt b1))
          try clear cf8
          try clear cf9
          try clear cf10
          have cf11 := blk2 (Ext.block ((((hx.trans hx1).trans ((Ext.refl _).drew)).trans hzw3).trans hzw4) HB0.out.1)
          have cf12 := blk3 (Ext.block ((((hx.trans hx1).trans ((Ext.refl _).drew)).trans hzw3).trans hzw4) HB0.out.2)
          have cf13 := blk5 (Ext.block ((((Ext.refl _).drew).trans hzw3).trans hzw4) HB1.out)
          go_wp2_with fail
          go_roundg (gk - 1)
          case measure => have h1 := HGK.out; omega
          case rel => exact ⟨k + 1, by have h1 := HGK.out; omega, congrArg (Value.int .i64) (by first | omega | (unfold wrap64; omega)), HE, ((((hx.trans hx1).trans ((Ext.refl _).drew)).trans hzw3).trans hzw4)⟩
        · have HE := Lib.hid (authBy_yes hlt b0 b1)
          try clear cf8
          try clear cf9
          try clear cf10
          have cf14 := blk2 (Ext.block ((((hx.trans hx1).trans ((Ext.refl _).drew)).trans hzw3).trans hzw4) HB0.out.1)
          have cf15 := blk3 (Ext.block ((((hx.trans hx1).trans ((Ext.refl _).drew)).trans hzw3).trans hzw4) HB0.out.2)
          have cf16 := blk5 (Ext.block ((((Ext.refl _).drew).trans hzw3).trans hzw4) HB1.out)
          go_wp2_with fail
          go_ret
          exact ⟨ret_bool HE.out.symm, (((((hx0.trans hx).trans hx1).trans ((Ext.refl _).drew)).trans hzw3).trans hzw4)⟩
    · obtain rfl : k = s.hops.length := by omega
      have HE := Lib.hid (authBy_no HK.out)
      try clear cf1
      try clear cf2
      have cf17 := blk2 (Ext.block hx HB0.out.1)
      have cf18 := blk3 (Ext.block hx HB0.out.2)
      go_wp2_with fail
      go_ret
      exact ⟨ret_bool HE.out.symm, (hx0.trans hx)⟩

set_option maxRecDepth 100000 in
set_option maxHeartbeats 4000000 in
theorem s_AuthenticatedBy (t : Topo) (v1 v2 : Value) (s : Seg) (v : Value) (rr : Int) (w : World) (ha : RdS ASd.rep w v1 t.ases) (r : RdS Hop.rep w v s.hops) (hl : s.hops.length ≤ 1048576) :
    Calls Try.prog 56 #[.agg #[v1, v2], .agg #[.int .i64 s.ts, .int .i64 s.beta, v], .int .i64 rr] w fun e w' => e = .returned (.bool (authBy t s rr)) ∧ Ext w w' := by
  obtain ⟨o, cap, rfl, hsm⟩ := r.shape
  have hx0 := ext2 w (.cells #[v1, v2] 59) (.cells #[.int .i64 s.ts, .int .i64 s.beta, .slice o s.hops.length cap] 62)
  have HB0 := Lib.hid (al2 w (.cells #[v1, v2] 59) (.cells #[.int .i64 s.ts, .int .i64 s.beta, .slice o s.hops.length cap] 62))
  go_enter Try.func56, Try.ntmps56
  obtain ⟨W0, hW0⟩ : ∃ W0 : World, W0 = ((w.alloc (.cells #[v1, v2] 59)).alloc (.cells #[.int .i64 s.ts, .int .i64 s.beta, .slice o s.hops.length cap] 62)) := ⟨_, rfl⟩
  rw [← hW0] at hx0 HB0
  have cf1 := blk2 HB0.out.1
  have cf2 := blk3 HB0.out.2
  go_wp2_with fail
  rw [← hW0]
  clear hW0
  go_loopg [7] s.hops.length (fun gk i wr => ∃ k : Nat, gk + k = s.hops.length ∧ i = .int .i64 k ∧ Hid (allTo (fun k => !(authAt t s rr k)) k = true) ∧ Ext W0 wr)
  case atStart => exact ⟨0, by omega, rfl, Lib.hid rfl, Ext.refl _⟩
  case round =>
    obtain ⟨k, hgk, rfl, HK, hx⟩ := hrel
    have HGK := Lib.hid hgk
    clear hgk
    have hkl : k ≤ s.hops.length := by have h1 := HGK.out; omega
    by_cases hlt : k < s.hops.length
    · obtain ⟨b, off, rfl, hc⟩ := Hop.at (r.ext (hx0.trans hx)) k hlt
      have h4 : (k : Int) < (s.hops.length : Int) := by omega
      try clear cf1
      try clear cf2
      have cf3 := blk2 (Ext.block hx HB0.out.1)
      have cf4 := blk3 (Ext.block hx HB0.out.2)
      go_upto_region 4 with (fail)
      cases b0 : (s.hops[k].asn == rr)
      · try clear cf3
        try clear cf4
        have cf5 := blk2 (Ext.block hx HB0.out.1)
        have cf6 := blk3 (Ext.block hx HB0.out.2)
        go_wp2_with fail
        refine wp_region_ext (by kernel_rfl) (by kernel_rfl) ?_
        have q0 := ExtW.cell (cf5.1)
        have q1 := ExtW.cell (cf5.2)
        have q2 := ExtW.cell (cf6.1)
        have q3 := ExtW.cell (cf6.2.1)
        have q4 := ExtW.cell (cf6.2.2)
        have q5 := ExtW.cell (hc.1)
        have q6 := ExtW.cell (hc.2.1)
        have q7 := ExtW.cell (hc.2.2.1)
        have q8 := ExtW.cell (hc.2.2.2.1)
        have q9 := ExtW.cell (hc.2.2.2.2)
        repeat (first | go_big_quiet_step ((fail)) | quiet_step ((fail)))
        refine wpQuiet_nil ?_
        intro w1 hw1
        have hz1 := ExtW.out hw1
        clear hw1 q0 q1 q2 q3 q4 q5 q6 q7 q8 q9
        have HE := Lib.hid (allTo_snoc HK.out (auth_not1 (t := t) (r := rr) hlt b0))
        try clear cf5
        try clear cf6
        have cf7 := blk2 (Ext.block (hx.trans hz1) HB0.out.1)
        have cf8 := blk3 (Ext.block (hx.trans hz1) HB0.out.2)
        have cf9 := Hop.at_ext hz1 hc
        go_wp2_with fail
        go_roundg (gk - 1)
        case measure => have h1 := HGK.out; omega
        case rel => exact ⟨k + 1, by have h1 := HGK.out; omega, congrArg (Value.int .i64) (by first | omega | (unfold wrap64; omega)), HE, (hx.trans hz1)⟩
      · refine planStep (.blk [0, 1, 2, 3, 4, 5, 6, 7, 8, 9, 10, 11, 12, 13, 15, 16, 17, 18, 19] (.one 14 (.one 20 (.blk [21] .done)))) [] (by kernel_rfl) (by kernel_rfl) ?_
        try clear cf3
        try clear cf4
        have cf10 := blk2 (Ext.block (hx.trans ((Ext.refl _).drew)) HB0.out.1)
        have cf11 := blk3 (Ext.block (hx.trans ((Ext.refl _).drew)) HB0.out.2)
        have cf12 := Hop.at_ext ((Ext.refl _).drew) hc
        refine blkStep (fun K HKK => ?_)
        simp only [pick, List.filterMap_cons, List.filterMap_nil, List.getElem?_toArray, List.getElem?_cons_zero, List.getElem?_cons_succ]
        go_wp2_with fail
        refine HKK.out _ _ ?_
        clear HKK K
        refine oneStep (fun K HKK => ?_)
        simp only [pick, List.filterMap_cons, List.filterMap_nil, List.getElem?_toArray, List.getElem?_cons_zero, List.getElem?_cons_succ]
        go_wp2_with fail
        refine (s_BetaAt s _ (k : Int) _ (r.ext ((hx0.trans hx).trans ((Ext.refl _).drew))) hl).mono ?_
        rintro e w3 ⟨rfl, hzw3⟩
        go_wp2_with fail
        refine HKK.out _ _ hzw3 ?_
        clear HKK K
        generalize hbe : betaAt s k = be at *
        have HBE := Lib.hid hbe; clear hbe
        refine oneStep (fun K HKK => ?_)
        simp only [pick, List.filterMap_cons, List.filterMap_nil, List.getElem?_toArray, List.getElem?_cons_zero, List.getElem?_cons_succ]
        go_wp2_with fail
        refine (s_VerifyHop t _ _ _ be s.hops[k] _ (ha.ext (((hx0.trans hx).trans ((Ext.refl _).drew)).trans hzw3))).mono ?_
        rintro e w4 ⟨rfl, hzw4⟩
        go_wp2_with fail
        refine HKK.out _ _ hzw4 ?_
        clear HKK K
        refine blkStep (fun K HKK => ?_)
        simp only [pick, List.filterMap_cons, List.filterMap_nil, List.getElem?_toArray, List.getElem?_cons_zero, List.getElem?_cons_succ]
        go_wp2_with fail
        refine HKK.out _ _ ?_
        clear HKK K
        refine doneStep (by kernel_rfl) ?_
        rw [← HBE.out]
        clear HBE
        cases b1 : verHop t s.ts (betaAt s k) s.hops[k]
        · have HE := Lib.hid (allTo_snoc HK.out (auth_not2 (t := t) (r := rr) hlt b1))
          try clear cf10
          try clear cf11
          try clear cf12
          have cf13 := blk2 (Ext.block (((hx.trans ((Ext.refl _).drew)).trans hzw3).trans hzw4) HB0.out.1)
          have cf14 := blk3 (Ext.block (((hx.trans ((Ext.refl _).drew)).trans hzw3).trans hzw4) HB0.out.2)
          have cf15 := Hop.at_ext ((((Ext.refl _).drew).trans hzw3).trans hzw4) hc
          go_wp2_with fail
          go_roundg (gk - 1)
          case measure => have h1 := HGK.out; omega
          case rel => exact ⟨k + 1, by have h1 := HGK.out; omega, congrArg (Value.int .i64) (by first | omega | (unfold wrap64; omega)), HE, (((hx.trans ((Ext.refl _).drew)).trans hzw3).trans hzw4)⟩
        · have HE := Lib.hid (authBy_yes hlt b0 b1)
          try clear cf10
          try clear cf11
          try clear cf12
          have cf16 := blk2 (Ext.block (((hx.trans ((Ext.refl _).drew)).trans hzw3).trans hzw4) HB0.out.1)
          have cf17 := blk3 (Ext.block (((hx.trans ((Ext.refl _).drew)).trans hzw3).trans hzw4) HB0.out.2)
          have cf18 := Hop.at_ext ((((Ext.refl _).drew).trans hzw3).trans hzw4) hc
          go_wp2_with fail
          go_ret
          exact ⟨ret_bool HE.out.symm, ((((hx0.trans hx).trans ((Ext.refl _).drew)).trans hzw3).trans hzw4)⟩
    · obtain rfl : k = s.hops.length := by omega
      have HE := Lib.hid (authBy_no HK.out)
      try clear cf1
      try clear cf2
      have cf19 := blk2 (Ext.block hx HB0.out.1)
      have cf20 := blk3 (Ext.block hx HB0.out.2)
      go_wp2_with fail
      go_ret
      exact ⟨ret_bool HE.out.symm, (hx0.trans hx)⟩

set_option maxRecDepth 100000 in
set_option maxHeartbeats 1000000 in
theorem i_IsTerminated (s : Seg) (v : Value) (w : World) (r : RdS Hop.rep w v s.hops) :
    Calls Try.prog 64 #[.agg #[.int .i64 s.ts, .int .i64 s.beta, v]] w fun e w' => e = .returned (.bool (isTerm s)) ∧ Ext w w' := by
  obtain ⟨o, cap, rfl, hsm⟩ := r.shape
  have hx0 : Ext w (w.alloc (.cells #[.int .i64 s.ts, .int .i64 s.beta, .slice o s.hops.length cap] 62)) := (Ext.refl _).alloc _
  have HB0 := Lib.hid (blk_new w (.cells #[.int .i64 s.ts, .int .i64 s.beta, .slice o s.hops.length cap] 62))
  go_enter Try.func64, Try.ntmps64
  have hl0 : s.hops.length = 0 ∨ 0 < s.hops.length := by omega
  rcases hl0 with hl0 | hl0
  · obtain ⟨ts, beta, hops⟩ := s
    obtain rfl : hops = [] := List.eq_nil_of_length_eq_zero hl0
    have HE := Lib.hid (show isTerm ⟨ts, beta, []⟩ = false from rfl)
    clear hl0
    have cf1 := blk3 HB0.out
    go_wp2_with fail
    go_ret
    exact ⟨ret_bool HE.out.symm, hx0⟩
  · have hlt : s.hops.length - 1 < s.hops.length := by omega
    obtain ⟨b, off, rfl, hc⟩ := Hop.at (r.ext hx0) (s.hops.length - 1) hlt
    have HE := Lib.hid (show isTerm s = (s.hops[s.hops.length - 1].eg == 0) by unfold isTerm; rw [hopAt_at hlt, decide_eq_true hl0]; rfl)
    obtain ⟨m, hm⟩ : ∃ m, m = s.hops.length - 1 := ⟨_, rfl⟩
    have hm1 : (s.hops.length : Int) - 1 = (m : Int) := by omega
    have hm2 : m < s.hops.length := by omega
    have h1 : (0 : Int) < (s.hops.length : Int) := by omega
    have hx : s.hops[s.hops.length - 1] = s.hops[m] := by congr 1; omega
    rw [hx] at HE hc
    rw [← hm] at hc
    clear hx hm hlt
    have cf2 := blk3 HB0.out
    go_wp2_with fail
    go_ret
    exact ⟨ret_bool HE.out.symm, hx0⟩

set_option maxRecDepth 100000 in
set_option maxHeartbeats 1000000 in
theorem s_IsTerminated (s : Seg) (v : Value) (w : World) (r : RdS Hop.rep w v s.hops) :
    Calls Try.prog 132 #[.agg #[.int .i64 s.ts, .int .i64 s.beta, v]] w fun e w' => e = .returned (.bool (isTerm s)) ∧ Ext w w' := by
  obtain ⟨o, cap, rfl, hsm⟩ := r.shape
  have hx0 : Ext w (w.alloc (.cells #[.int .i64 s.ts, .int .i64 s.beta, .slice o s.hops.length cap] 62)) := (Ext.refl _).alloc _
  have HB0 := Lib.hid (blk_new w (.cells #[.int .i64 s.ts, .int .i64 s.beta, .slice o s.hops.length cap] 62))
  go_enter Try.func132, Try.ntmps132
  have hl0 : s.hops.length = 0 ∨ 0 < s.hops.length := by omega
  rcases hl0 with hl0 | hl0
  · obtain ⟨ts, beta, hops⟩ := s
    obtain rfl : hops = [] := List.eq_nil_of_length_eq_zero hl0
    have HE := Lib.hid (show isTerm ⟨ts, beta, []⟩ = false from rfl)
    clear hl0
    have cf1 := blk3 HB0.out
    go_wp2_with fail
    go_ret
    exact ⟨ret_bool HE.out.symm, hx0⟩
  · have hlt : s.hops.length - 1 < s.hops.length := by omega
    obtain ⟨b, off, rfl, hc⟩ := Hop.at (r.ext hx0) (s.hops.length - 1) hlt
    have HE := Lib.hid (show isTerm s = (s.hops[s.hops.length - 1].eg == 0) by unfold isTerm; rw [hopAt_at hlt, decide_eq_true hl0]; rfl)
    obtain ⟨m, hm⟩ : ∃ m, m = s.hops.length - 1 := ⟨_, rfl⟩
    have hm1 : (s.hops.length : Int) - 1 = (m : Int) := by omega
    have hm2 : m < s.hops.length := by omega
    have h1 : (0 : Int) < (s.hops.length : Int) := by omega
    have hx : s.hops[s.hops.length - 1] = s.hops[m] := by congr 1; omega
    rw [hx] at HE hc
    rw [← hm] at hc
    clear hx hm hlt
    have cf2 := blk3 HB0.out
    go_wp2_with fail
    go_ret
    exact ⟨ret_bool HE.out.symm, hx0⟩

set_option maxRecDepth 100000 in
set_option maxHeartbeats 1000000 in
theorem i_SegmentExpiry (s : Seg) (v : Value) (w : World) (r : RdS Hop.rep w v s.hops) :
    Calls Try.prog 65 #[.agg #[.int .i64 s.ts, .int .i64 s.beta, v]] w fun e w' => e = .returned (.int .i64 (leastExp s.hops)) ∧ Ext w w' := by
  obtain ⟨o, cap, rfl, hsm⟩ := r.shape
  have hx0 : Ext w (w.alloc (.cells #[.int .i64 s.ts, .int .i64 s.beta, .slice o s.hops.length cap] 62)) := (Ext.refl _).alloc _
  have HB0 := Lib.hid (blk_new w (.cells #[.int .i64 s.ts, .int .i64 s.beta, .slice o s.hops.length cap] 62))
  go_enter Try.func65, Try.ntmps65
  have cf1 := blk3 HB0.out
  go_wp2_with fail
  refine (i_leastExpiry s.hops _ _ (r.ext hx0)).mono ?_
  rintro e w1 ⟨rfl, hz1⟩
  try clear cf1
  have cf2 := blk3 (Ext.block hz1 HB0.out)
  go_wp2_with fail
  go_ret
  exact ⟨rfl, (hx0.trans hz1)⟩


/-- The ith hop ends the segment or goes on, and follows the one before it. -/
def wfJoin (t : Topo) (l : List Hop) (i : Nat) : Bool := !(((hopAt l i).eg == 0) && decide (i + 1 < l.length)) && (decide (i = 0) || (((remEnd t (hopAt l (i - 1)).asn (hopAt l (i - 1)).eg).1 == (hopAt l i).asn) && ((remEnd t (hopAt l (i - 1)).asn (hopAt l (i - 1)).eg).2 == (hopAt l i).ing)))
def wfSeg (t : Topo) (s : Seg) : Bool := hopsOk t s.hops && ((hopAt s.hops 0).ing == 0) && allTo (wfJoin t s.hops) s.hops.length
theorem wf_len' {t : Topo} {l : List Hop} (h : hopsOk t l = true) : 1 ≤ l.length ∧ l.length ≤ 8 := by
  unfold hopsOk at h
  simp only [Bool.and_eq_true] at h
  have := inR_true.1 h.1
  omega
theorem wf_no1 {t : Topo} {s : Seg} (h : hopsOk t s.hops = false) : wfSeg t s = false := by unfold wfSeg; rw [h]; rfl
theorem wf_no2 {t : Topo} {s : Seg} (h0 : 0 < s.hops.length) (h : (s.hops[0].ing == 0) = false) : wfSeg t s = false := by unfold wfSeg; rw [hopAt_at h0, h]; simp
theorem wf_no3 {t : Topo} {s : Seg} {k : Nat} (hk : k < s.hops.length) (h : wfJoin t s.hops k = false) : wfSeg t s = false := by unfold wfSeg; rw [allTo_no hk h]; simp
theorem wf_yes {t : Topo} {s : Seg} (h1 : hopsOk t s.hops = true) (h0 : 0 < s.hops.length) (h2 : (s.hops[0].ing == 0) = true) (h3 : allTo (wfJoin t s.hops) s.hops.length = true) : wfSeg t s = true := by unfold wfSeg; rw [h1, hopAt_at h0, h2, h3]; rfl
theorem join_no1 {t : Topo} {l : List Hop} {k : Nat} (hk : k < l.length) (h1 : (l[k].eg == 0) = true) (h2 : k + 1 < l.length) : wfJoin t l k = false := by unfold wfJoin; rw [hopAt_at hk, h1, decide_eq_true h2]; rfl
theorem join_zero {t : Topo} {l : List Hop} (hk : 0 < l.length) (h : (l[0].eg == 0) = false ∨ ¬ 0 + 1 < l.length) : wfJoin t l 0 = true := by
  unfold wfJoin
  rw [hopAt_at hk]
  rcases h with h | h
  · rw [h]; rfl
  · rw [decide_eq_false h]; simp
theorem join_at {t : Topo} {l : List Hop} {k : Nat} (hk : k + 1 < l.length) (h : (l[k + 1].eg == 0) = false ∨ ¬ k + 1 + 1 < l.length) :
    wfJoin t l (k + 1) = (((remEnd t l[k].asn l[k].eg).1 == l[k + 1].asn) && ((remEnd t l[k].asn l[k].eg).2 == l[k + 1].ing)) := by
  unfold wfJoin
  rw [hopAt_at hk, Nat.add_sub_cancel, hopAt_at (show k < l.length by omega)]
  rcases h with h | h
  · rw [h]; simp
  · rw [decide_eq_false h]; simp

set_option maxRecDepth 100000 in
set_option maxHeartbeats 4000000 in
theorem i_WellFormed (t : Topo) (v1 v2 : Value) (s : Seg) (v : Value)  (w : World) (ha : RdS ASd.rep w v1 t.ases) (hk : RdS Lnk.rep w v2 t.links) (r : RdS Hop.rep w v s.hops) (hl : s.hops.length ≤ 1048576) :
    Calls Try.prog 124 #[.agg #[v1, v2], .agg #[.int .i64 s.ts, .int .i64 s.beta, v]] w fun e w' => e = .returned (.bool (wfSeg t s)) ∧ Ext w w' := by
  obtain ⟨o, cap, rfl, hsm⟩ := r.shape
  have hx0 := ext2 w (.cells #[v1, v2] 59) (.cells #[.int .i64 s.ts, .int .i64 s.beta, .slice o s.hops.length cap] 62)
  have HB0 := Lib.hid (al2 w (.cells #[v1, v2] 59) (.cells #[.int .i64 s.ts, .int .i64 s.beta, .slice o s.hops.length cap] 62))
  go_enter Try.func124, Try.ntmps124
  obtain ⟨W0, hW0⟩ : ∃ W0 : World, W0 = ((w.alloc (.cells #[v1, v2] 59)).alloc (.cells #[.int .i64 s.ts, .int .i64 s.beta, .slice o s.hops.length cap] 62)) := ⟨_, rfl⟩
  rw [← hW0] at hx0 HB0
  have cf1 := blk2 HB0.out.1
  have cf2 := blk3 HB0.out.2
  go_wp2_with fail
  rw [← hW0]
  clear hW0
  refine (i_hopsOk t _ _ s.hops _ _ (ha.ext hx0) (r.ext hx0)).mono ?_
  rintro e w1 ⟨rfl, hz1⟩
  cases bb : hopsOk t s.hops
  · have HE := Lib.hid (wf_no1 bb)
    try clear cf1
    try clear cf2
    have cf3 := blk2 (Ext.block hz1 HB0.out.1)
    have cf4 := blk3 (Ext.block hz1 HB0.out.2)
    go_wp2_with fail
    go_ret
    exact ⟨ret_bool HE.out.symm, (hx0.trans hz1)⟩
  · have B1 := Lib.hid bb
    obtain ⟨hl1, hl8⟩ := wf_len' bb
    clear bb
    have h0 : 0 < s.hops.length := by omega
    obtain ⟨b, off, rfl, hc0⟩ := Hop.at (r.ext (hx0.trans hz1)) 0 h0
    have h00 : (0 : Int) < (s.hops.length : Int) := by omega
    cases b2 : (s.hops[0].ing == 0)
    · have b2' : (s.hops[0].ing != 0) = true := by simp only [bne, b2]; rfl
      have HE := Lib.hid (wf_no2 (t := t) h0 b2)
      try clear cf1
      try clear cf2
      have cf5 := blk2 (Ext.block hz1 HB0.out.1)
      have cf6 := blk3 (Ext.block hz1 HB0.out.2)
      go_wp2_with fail
      go_ret
      exact ⟨ret_bool HE.out.symm, (hx0.trans hz1)⟩
    · have b2' : (s.hops[0].ing != 0) = false := by simp only [bne, b2]; rfl
      have B2 := Lib.hid b2
      clear b2
      try clear cf1
      try clear cf2
      have cf7 := blk2 (Ext.block hz1 HB0.out.1)
      have cf8 := blk3 (Ext.block hz1 HB0.out.2)
      go_wp2_with fail
      clear b2' hc0
      go_loopg [26] s.hops.length (fun gk i wr => ∃ k : Nat, gk + k = s.hops.length ∧ i = .int .i64 k ∧ Hid (allTo (wfJoin t s.hops) k = true) ∧ Ext w1 wr)
      case atStart => exact ⟨0, by omega, rfl, Lib.hid rfl, Ext.refl _⟩
      case round =>
        obtain ⟨k, hgk, rfl, HK, hx⟩ := hrel
        have HGK := Lib.hid hgk
        clear hgk
        have hkl : k ≤ s.hops.length := by have h1 := HGK.out; omega
        by_cases hlt : k < s.hops.length
        · obtain ⟨b', off', hbo, hc⟩ := Hop.at (r.ext ((hx0.trans hz1).trans hx)) k hlt
          cases hbo
          have h4 : (k : Int) < (s.hops.length : Int) := by omega
          try clear cf7
          try clear cf8
          have cf9 := blk2 (Ext.block (hz1.trans hx) HB0.out.1)
          have cf10 := blk3 (Ext.block (hz1.trans hx) HB0.out.2)
          go_upto_region 6 with (fail)
          try clear cf9
          try clear cf10
          clear hc
          have hx1 : Ext wr (wr.alloc (.cells #[.int .i64 s.hops[k].asn, .int .i64 s.hops[k].ing, .int .i64 s.hops[k].eg, .int .i64 s.hops[k].exp, .int .i64 s.hops[k].mac] 73)) := (Ext.refl _).alloc _
          have HB1 := Lib.hid (blk_new wr (.cells #[.int .i64 s.hops[k].asn, .int .i64 s.hops[k].ing, .int .i64 s.hops[k].eg, .int .i64 s.hops[k].exp, .int .i64 s.hops[k].mac] 73))
          obtain ⟨wa, hwa⟩ : ∃ wa : World, wa = wr.alloc (.cells #[.int .i64 s.hops[k].asn, .int .i64 s.hops[k].ing, .int .i64 s.hops[k].eg, .int .i64 s.hops[k].exp, .int .i64 s.hops[k].mac] 73) := ⟨_, rfl⟩
          rw [← hwa]
          rw [← hwa] at hx1 HB1
          clear hwa
          cases b5 : (s.hops[k].eg == 0)
          · have HEND : Hid ((s.hops[k].eg == 0) = false ∨ ¬ k + 1 < s.hops.length) := Lib.hid (.inl b5)
            rcases Nat.eq_zero_or_pos k with hk0 | hk0
            · have hkz : ¬ (0 : Int) < (k : Int) := by omega
              have HE := Lib.hid (allTo_snoc HK.out (show wfJoin t s.hops k = true by subst hk0; exact join_zero h0 HEND.out))
              clear hk0
              have cf11 := blk2 (Ext.block ((hz1.trans hx).trans hx1) HB0.out.1)
              have cf12 := blk3 (Ext.block ((hz1.trans hx).trans hx1) HB0.out.2)
              have cf13 := blk5 HB1.out
              go_wp2_with fail
              go_roundg (gk - 1)
              case measure => have h1 := HGK.out; omega
              case rel => exact ⟨k + 1, by have h1 := HGK.out; omega, congrArg (Value.int .i64) (by first | omega | (unfold wrap64; omega)), HE, (hx.trans hx1)⟩
            · obtain ⟨j, rfl⟩ : ∃ j, k = j + 1 := ⟨k - 1, by omega⟩
              have hkz : (0 : Int) < ((j + 1 : Nat) : Int) := by omega
              have hj1 : ((j + 1 : Nat) : Int) - 1 = (j : Int) := by omega
              have hjl : j < s.hops.length := by omega
              have hj4 : (j : Int) < (s.hops.length : Int) := by omega
              have HJ := Lib.hid (join_at (t := t) hlt HEND.out)
              obtain ⟨b2, off2, hbo, hd⟩ := Hop.at (r.ext (((hx0.trans hz1).trans hx).trans hx1)) j hjl
              cases hbo
              have cf14 := blk2 (Ext.block ((hz1.trans hx).trans hx1) HB0.out.1)
              have cf15 := blk3 (Ext.block ((hz1.trans hx).trans hx1) HB0.out.2)
              have cf16 := blk5 HB1.out
              go_upto_region 10 with (fail)
              try clear cf14
              try clear cf15
              try clear cf16
              clear hd
              have hx2 : Ext wa (wa.alloc (.cells #[.int .i64 s.hops[j].asn, .int .i64 s.hops[j].ing, .int .i64 s.hops[j].eg, .int .i64 s.hops[j].exp, .int .i64 s.hops[j].mac] 73)) := (Ext.refl _).alloc _
              have HB2 := Lib.hid (blk_new wa (.cells #[.int .i64 s.hops[j].asn, .int .i64 s.hops[j].ing, .int .i64 s.hops[j].eg, .int .i64 s.hops[j].exp, .int .i64 s.hops[j].mac] 73))
              obtain ⟨wb, hwb⟩ : ∃ wb : World, wb = wa.alloc (.cells #[.int .i64 s.hops[j].asn, .int .i64 s.hops[j].ing, .int .i64 s.hops[j].eg, .int .i64 s.hops[j].exp, .int .i64 s.hops[j].mac] 73) := ⟨_, rfl⟩
              rw [← hwb]
              rw [← hwb] at hx2 HB2
              clear hwb
              have cf17 := blk2 (Ext.block (((hz1.trans hx).trans hx1).trans hx2) HB0.out.1)
              have cf18 := blk3 (Ext.block (((hz1.trans hx).trans hx1).trans hx2) HB0.out.2)
              have cf19 := blk5 (Ext.block hx2 HB1.out)
              have cf20 := blk5 HB2.out
              go_wp2_with fail
              refine (i_RemoteEnd t _ _ s.hops[j].asn s.hops[j].eg _ (hk.ext ((((hx0.trans hz1).trans hx).trans hx1).trans hx2))).mono ?_
              rintro e w5 ⟨rfl, hz5⟩
              generalize hR : remEnd t s.hops[j].asn s.hops[j].eg = R at *
              have HR := Lib.hid hR
              clear hR
              cases c1 : (R.1 == s.hops[j + 1].asn)
              · have c1' : (R.1 != s.hops[j + 1].asn) = true := by simp only [bne, c1]; rfl
                have HE := Lib.hid (wf_no3 (t := t) hlt (show wfJoin t s.hops (j + 1) = false by rw [HJ.out]; simp [c1]))
                try clear cf17
                try clear cf18
                try clear cf19
                try clear cf20
                have cf21 := blk2 (Ext.block ((((hz1.trans hx).trans hx1).trans hx2).trans hz5) HB0.out.1)
                have cf22 := blk3 (Ext.block ((((hz1.trans hx).trans hx1).trans hx2).trans hz5) HB0.out.2)
                have cf23 := blk5 (Ext.block (hx2.trans hz5) HB1.out)
                have cf24 := blk5 (Ext.block hz5 HB2.out)
                go_wp2_with fail
                go_ret
                exact ⟨ret_bool HE.out.symm, (((((hx0.trans hz1).trans hx).trans hx1).trans hx2).trans hz5)⟩
              · have c1' : (R.1 != s.hops[j + 1].asn) = false := by simp only [bne, c1]; rfl
                cases c2 : (R.2 == s.hops[j + 1].ing)
                · have c2' : (R.2 != s.hops[j + 1].ing) = true := by simp only [bne, c2]; rfl
                  have HE := Lib.hid (wf_no3 (t := t) hlt (show wfJoin t s.hops (j + 1) = false by rw [HJ.out]; simp [c2]))
                  try clear cf17
                  try clear cf18
                  try clear cf19
                  try clear cf20
                  have cf25 := blk2 (Ext.block ((((hz1.trans hx).trans hx1).trans hx2).trans hz5) HB0.out.1)
                  have cf26 := blk3 (Ext.block ((((hz1.trans hx).trans hx1).trans hx2).trans hz5) HB0.out.2)
                  have cf27 := blk5 (Ext.block (hx2.trans hz5) HB1.out)
                  have cf28 := blk5 (Ext.block hz5 HB2.out)
                  go_wp2_with fail
                  go_ret
                  exact ⟨ret_bool HE.out.symm, (((((hx0.trans hz1).trans hx).trans hx1).trans hx2).trans hz5)⟩
                · have c2' : (R.2 != s.hops[j + 1].ing) = false := by simp only [bne, c2]; rfl
                  have HE := Lib.hid (allTo_snoc HK.out (show wfJoin t s.hops (j + 1) = true by rw [HJ.out, c1, c2]; rfl))
                  try clear cf17
                  try clear cf18
                  try clear cf19
                  try clear cf20
                  have cf29 := blk2 (Ext.block ((((hz1.trans hx).trans hx1).trans hx2).trans hz5) HB0.out.1)
                  have cf30 := blk3 (Ext.block ((((hz1.trans hx).trans hx1).trans hx2).trans hz5) HB0.out.2)
                  have cf31 := blk5 (Ext.block (hx2.trans hz5) HB1.out)
                  have cf32 := blk5 (Ext.block hz5 HB2.out)
                  go_wp2_with fail
                  go_roundg (gk - 1)
                  case measure => have h1 := HGK.out; omega
                  case rel => exact ⟨j + 1 + 1, by have h1 := HGK.out; omega, congrArg (Value.int .i64) (by first | omega | (unfold wrap64; omega)), HE, (((hx.trans hx1).trans hx2).trans hz5)⟩
          · have hend : k + 1 < s.hops.length ∨ ¬ k + 1 < s.hops.length := by omega
            rcases hend with hend | hend
            · have h6 : (k : Int) < (s.hops.length : Int) - 1 := by omega
              have HE := Lib.hid (wf_no3 (t := t) hlt (join_no1 hlt b5 hend))
              clear hend
              have cf33 := blk2 (Ext.block ((hz1.trans hx).trans hx1) HB0.out.1)
              have cf34 := blk3 (Ext.block ((hz1.trans hx).trans hx1) HB0.out.2)
              have cf35 := blk5 HB1.out
              go_wp2_with fail
              go_ret
              exact ⟨ret_bool HE.out.symm, (((hx0.trans hz1).trans hx).trans hx1)⟩
            · have h6 : ¬ (k : Int) < (s.hops.length : Int) - 1 := by omega
              have HEND : Hid ((s.hops[k].eg == 0) = false ∨ ¬ k + 1 < s.hops.length) := Lib.hid (.inr hend)
              clear hend
              rcases Nat.eq_zero_or_pos k with hk0 | hk0
              · have hkz : ¬ (0 : Int) < (k : Int) := by omega
                have HE := Lib.hid (allTo_snoc HK.out (show wfJoin t s.hops k = true by subst hk0; exact join_zero h0 HEND.out))
                clear hk0
                have cf36 := blk2 (Ext.block ((hz1.trans hx).trans hx1) HB0.out.1)
                have cf37 := blk3 (Ext.block ((hz1.trans hx).trans hx1) HB0.out.2)
                have cf38 := blk5 HB1.out
                go_wp2_with fail
                go_roundg (gk - 1)
                case measure => have h1 := HGK.out; omega
                case rel => exact ⟨k + 1, by have h1 := HGK.out; omega, congrArg (Value.int .i64) (by first | omega | (unfold wrap64; omega)), HE, (hx.trans hx1)⟩
              · obtain ⟨j, rfl⟩ : ∃ j, k = j + 1 := ⟨k - 1, by omega⟩
                have hkz : (0 : Int) < ((j + 1 : Nat) : Int) := by omega
                have hj1 : ((j + 1 : Nat) : Int) - 1 = (j : Int) := by omega
                have hjl : j < s.hops.length := by omega
                have hj4 : (j : Int) < (s.hops.length : Int) := by omega
                have HJ := Lib.hid (join_at (t := t) hlt HEND.out)
                obtain ⟨b2, off2, hbo, hd⟩ := Hop.at (r.ext (((hx0.trans hz1).trans hx).trans hx1)) j hjl
                cases hbo
                have cf39 := blk2 (Ext.block ((hz1.trans hx).trans hx1) HB0.out.1)
                have cf40 := blk3 (Ext.block ((hz1.trans hx).trans hx1) HB0.out.2)
                have cf41 := blk5 HB1.out
                go_upto_region 10 with (fail)
                try clear cf39
                try clear cf40
                try clear cf41
                clear hd
                have hx2 : Ext wa (wa.alloc (.cells #[.int .i64 s.hops[j].asn, .int .i64 s.hops[j].ing, .int .i64 s.hops[j].eg, .int .i64 s.hops[j].exp, .int .i64 s.hops[j].mac] 73)) := (Ext.refl _).alloc _
                have HB2 := Lib.hid (blk_new wa (.cells #[.int .i64 s.hops[j].asn, .int .i64 s.hops[j].ing, .int .i64 s.hops[j].eg, .int .i64 s.hops[j].exp, .int .i64 s.hops[j].mac] 73))
                obtain ⟨wb, hwb⟩ : ∃ wb : World, wb = wa.alloc (.cells #[.int .i64 s.hops[j].asn, .int .i64 s.hops[j].ing, .int .i64 s.hops[j].eg, .int .i64 s.hops[j].exp, .int .i64 s.hops[j].mac] 73) := ⟨_, rfl⟩
                rw [← hwb]
                rw [← hwb] at hx2 HB2
                clear hwb
                have cf42 := blk2 (Ext.block (((hz1.trans hx).trans hx1).trans hx2) HB0.out.1)
                have cf43 := blk3 (Ext.block (((hz1.trans hx).trans hx1).trans hx2) HB0.out.2)
                have cf44 := blk5 (Ext.block hx2 HB1.out)
                have cf45 := blk5 HB2.out
                go_wp2_with fail
                refine (i_RemoteEnd t _ _ s.hops[j].asn s.hops[j].eg _ (hk.ext ((((hx0.trans hz1).trans hx).trans hx1).trans hx2))).mono ?_
                rintro e w5 ⟨rfl, hz5⟩
                generalize hR : remEnd t s.hops[j].asn s.hops[j].eg = R at *
                have HR := Lib.hid hR
                clear hR
                cases c1 : (R.1 == s.hops[j + 1].asn)
                · have c1' : (R.1 != s.hops[j + 1].asn) = true := by simp only [bne, c1]; rfl
                  have HE := Lib.hid (wf_no3 (t := t) hlt (show wfJoin t s.hops (j + 1) = false by rw [HJ.out]; simp [c1]))
                  try clear cf42
                  try clear cf43
                  try clear cf44
                  try clear cf45
                  have cf46 := blk2 (Ext.block ((((hz1.trans hx).trans hx1).trans hx2).trans hz5) HB0.out.1)
                  have cf47 := blk3 (Ext.block ((((hz1.trans hx).trans hx1).trans hx2).trans hz5) HB0.out.2)
                  have cf48 := blk5 (Ext.block (hx2.trans hz5) HB1.out)
                  have cf49 := blk5 (Ext.block hz5 HB2.out)
                  go_wp2_with fail
                  go_ret
                  exact ⟨ret_bool HE.out.symm, (((((hx0.trans hz1).trans hx).trans hx1).trans hx2).trans hz5)⟩
                · have c1' : (R.1 != s.hops[j + 1].asn) = false := by simp only [bne, c1]; rfl
                  cases c2 : (R.2 == s.hops[j + 1].ing)
                  · have c2' : (R.2 != s.hops[j + 1].ing) = true := by simp only [bne, c2]; rfl
                    have HE := Lib.hid (wf_no3 (t := t) hlt (show wfJoin t s.hops (j + 1) = false by rw [HJ.out]; simp [c2]))
                    try clear cf42
                    try clear cf43
                    try clear cf44
                    try clear cf45
                    have cf50 := blk2 (Ext.block ((((hz1.trans hx).trans hx1).trans hx2).trans hz5) HB0.out.1)
                    have cf51 := blk3 (Ext.block ((((hz1.trans hx).trans hx1).trans hx2).trans hz5) HB0.out.2)
                    have cf52 := blk5 (Ext.block (hx2.trans hz5) HB1.out)
                    have cf53 := blk5 (Ext.block hz5 HB2.out)
                    go_wp2_with fail
                    go_ret
                    exact ⟨ret_bool HE.out.symm, (((((hx0.trans hz1).trans hx).trans hx1).trans hx2).trans hz5)⟩
                  · have c2' : (R.2 != s.hops[j + 1].ing) = false := by simp only [bne, c2]; rfl
                    have HE := Lib.hid (allTo_snoc HK.out (show wfJoin t s.hops (j + 1) = true by rw [HJ.out, c1, c2]; rfl))
                    try clear cf42
                    try clear cf43
                    try clear cf44
                    try clear cf45
                    have cf54 := blk2 (Ext.block ((((hz1.trans hx).trans hx1).trans hx2).trans hz5) HB0.out.1)
                    have cf55 := blk3 (Ext.block ((((hz1.trans hx).trans hx1).trans hx2).trans hz5) HB0.out.2)
                    have cf56 := blk5 (Ext.block (hx2.trans hz5) HB1.out)
                    have cf57 := blk5 (Ext.block hz5 HB2.out)
                    go_wp2_with fail
                    go_roundg (gk - 1)
                    case measure => have h1 := HGK.out; omega
                    case rel => exact ⟨j + 1 + 1, by have h1 := HGK.out; omega, congrArg (Value.int .i64) (by first | omega | (unfold wrap64; omega)), HE, (((hx.trans hx1).trans hx2).trans hz5)⟩
        · obtain rfl : k = s.hops.length := by omega
          have HE := Lib.hid (wf_yes B1.out h0 B2.out HK.out)
          try clear cf7
          try clear cf8
          have cf58 := blk2 (Ext.block (hz1.trans hx) HB0.out.1)
          have cf59 := blk3 (Ext.block (hz1.trans hx) HB0.out.2)
          go_wp2_with fail
          go_ret
          exact ⟨ret_bool HE.out.symm, ((hx0.trans hz1).trans hx)⟩

theorem ok_no1 {t : Topo} {l : List Hop} (h : inR (l.length : Int) 1 8 = false) : hopsOk t l = false := by unfold hopsOk; rw [h]; rfl
theorem ok_no2 {t : Topo} {l : List Hop} {k : Nat} (hk : k < l.length) (h : hopFresh t l k = false) : hopsOk t l = false := by unfold hopsOk; rw [allTo_no hk h]; simp
theorem ok_yes {t : Topo} {l : List Hop} (h : inR (l.length : Int) 1 8 = true) (h2 : allTo (hopFresh t l) l.length = true) : hopsOk t l = true := by unfold hopsOk; rw [h, h2]; rfl
theorem fresh_at {t : Topo} {l : List Hop} {k : Nat} (hk : k < l.length) : hopFresh t l k = (validHop l[k] && isAs t l[k].asn && !(hasI ((l.map (·.asn)).take k) l[k].asn)) := by unfold hopFresh; rw [hopAt_at hk]

set_option maxRecDepth 100000 in
set_option maxHeartbeats 8000000 in
theorem s_WellFormed (t : Topo) (v1 v2 : Value) (s : Seg) (v : Value)  (w : World) (ha : RdS ASd.rep w v1 t.ases) (hk : RdS Lnk.rep w v2 t.links) (r : RdS Hop.rep w v s.hops) (hl : s.hops.length ≤ 1048576) :
    Calls Try.prog 127 #[.agg #[v1, v2], .agg #[.int .i64 s.ts, .int .i64 s.beta, v]] w fun e w' => e = .returned (.bool (wfSeg t s)) ∧ Ext w w' := by
  obtain ⟨o, cap, rfl, hsm⟩ := r.shape
  have hx0 := ext2 w (.cells #[v1, v2] 59) (.cells #[.int .i64 s.ts, .int .i64 s.beta, .slice o s.hops.length cap] 62)
  have HB0 := Lib.hid (al2 w (.cells #[v1, v2] 59) (.cells #[.int .i64 s.ts, .int .i64 s.beta, .slice o s.hops.length cap] 62))
  go_enter Try.func127, Try.ntmps127
  obtain ⟨W0, hW0⟩ : ∃ W0 : World, W0 = ((w.alloc (.cells #[v1, v2] 59)).alloc (.cells #[.int .i64 s.ts, .int .i64 s.beta, .slice o s.hops.length cap] 62)) := ⟨_, rfl⟩
  rw [← hW0] at hx0 HB0
  have cf1 := blk2 HB0.out.1
  have cf2 := blk3 HB0.out.2
  go_wp2_with fail
  rw [← hW0]
  clear hW0
  refine (s_l1In _ _ _ _).mono ?_
  rintro e _ ⟨rfl, rfl⟩
  cases bb : inR (s.hops.length : Int) 1 8
  · have HE := Lib.hid (wf_no1 (s := s) (ok_no1 (t := t) bb))
    go_wp2_with fail
    go_ret
    exact ⟨ret_bool HE.out.symm, hx0⟩
  · have B1 := Lib.hid bb
    obtain ⟨hl1, hl8⟩ := inR_true.1 bb
    clear bb
    have h0 : 0 < s.hops.length := by omega
    obtain ⟨b, off, rfl, hc0⟩ := Hop.at (r.ext hx0) 0 h0
    have h00 : (0 : Int) < (s.hops.length : Int) := by omega
    cases b2 : (s.hops[0].ing == 0)
    · have b2' : (s.hops[0].ing != 0) = true := by simp only [bne, b2]; rfl
      have HE := Lib.hid (wf_no2 (t := t) h0 b2)
      go_wp2_with fail
      go_ret
      exact ⟨ret_bool HE.out.symm, hx0⟩
    · have b2' : (s.hops[0].ing != 0) = false := by simp only [bne, b2]; rfl
      have B2 := Lib.hid b2
      clear b2
      go_wp2_with fail
      refine (s_SegmentASes s _ _ (r.ext hx0) hl).mono ?_
      rintro e w1 ⟨vl, rfl, ol, hz1⟩
      obtain ⟨li, hli⟩ : ∃ li, li = s.hops.map (·.asn) := ⟨_, rfl⟩
      rw [← hli] at ol
      have hll : li.length = s.hops.length := by rw [hli]; simp
      have HLI := Lib.hid hli
      clear hli
      obtain ⟨oa, ca, rfl, _⟩ := (ints_rep ol).shape
      have hca := (ints_rep ol).capLe
      have rl := ints_rep ol
      clear ol
      have HLL := Lib.hid hll
      clear hll
      try clear cf1
      try clear cf2
      have cf3 := blk2 (Ext.block hz1 HB0.out.1)
      have cf4 := blk3 (Ext.block hz1 HB0.out.2)
      have cf5 := Hop.at_ext hz1 hc0
      go_wp2_with fail
      clear b2' hc0
      go_loopg [6] s.hops.length (fun gk i wr => ∃ k : Nat, gk + k = s.hops.length ∧ i = .int .i64 k ∧ Hid (allTo (hopFresh t s.hops) k = true) ∧ Hid (allTo (wfJoin t s.hops) k = true) ∧ Ext w1 wr)
      case atStart => exact ⟨0, by omega, rfl, Lib.hid rfl, Lib.hid rfl, Ext.refl _⟩
      case round =>
        obtain ⟨k, hgk, rfl, HF, HK, hx⟩ := hrel
        have HGK := Lib.hid hgk
        clear hgk
        have hkl : k ≤ s.hops.length := by have h1 := HGK.out; omega
        by_cases hlt : k < s.hops.length
        · obtain ⟨b', off', hbo, hc⟩ := Hop.at (r.ext ((hx0.trans hz1).trans hx)) k hlt
          cases hbo
          have h4 : (k : Int) < (s.hops.length : Int) := by omega
          have hkli : k ≤ li.length := by rw [HLL.out]; omega
          have hkca : k ≤ ca := Nat.le_trans hkli hca
          try clear cf3
          try clear cf4
          try clear cf5
          have cf6 := blk2 (Ext.block (hz1.trans hx) HB0.out.1)
          have cf7 := blk3 (Ext.block (hz1.trans hx) HB0.out.2)
          go_upto_region 8 with (fail)
          try clear cf6
          try clear cf7
          clear hc
          have hx1 : Ext wr (wr.alloc (.cells #[.int .i64 s.hops[k].asn, .int .i64 s.hops[k].ing, .int .i64 s.hops[k].eg, .int .i64 s.hops[k].exp, .int .i64 s.hops[k].mac] 73)) := (Ext.refl _).alloc _
          have HB1 := Lib.hid (blk_new wr (.cells #[.int .i64 s.hops[k].asn, .int .i64 s.hops[k].ing, .int .i64 s.hops[k].eg, .int .i64 s.hops[k].exp, .int .i64 s.hops[k].mac] 73))
          obtain ⟨wa, hwa⟩ : ∃ wa : World, wa = wr.alloc (.cells #[.int .i64 s.hops[k].asn, .int .i64 s.hops[k].ing, .int .i64 s.hops[k].eg, .int .i64 s.hops[k].exp, .int .i64 s.hops[k].mac] 73) := ⟨_, rfl⟩
          rw [← hwa]
          rw [← hwa] at hx1 HB1
          clear hwa
          have HFA := Lib.hid (fresh_at (t := t) hlt)
          rw [← HLI.out] at HFA
          cases d1 : validHop s.hops[k]
          · have cf8 := blk2 (Ext.block ((hz1.trans hx).trans hx1) HB0.out.1)
            have cf9 := blk3 (Ext.block ((hz1.trans hx).trans hx1) HB0.out.2)
            have cf10 := blk5 HB1.out
            go_wp2_with fail
            refine wp_region_ext (by kernel_rfl) (by kernel_rfl) ?_
            have q0 := ExtW.cell (cf8.1)
            have q1 := ExtW.cell (cf8.2)
            have q2 := ExtW.cell (cf9.1)
            have q3 := ExtW.cell (cf9.2.1)
            have q4 := ExtW.cell (cf9.2.2)
            have q5 := ExtW.cell (cf10.1)
            have q6 := ExtW.cell (cf10.2.1)
            have q7 := ExtW.cell (cf10.2.2.1)
            have q8 := ExtW.cell (cf10.2.2.2.1)
            have q9 := ExtW.cell (cf10.2.2.2.2)
            repeat (first | go_big_quiet_step (((first | (go_at_call 157; exact Calls.ext_of (s_ValidHop s.hops[k] _))))) | quiet_step (((first | (go_at_call 157; exact Calls.ext_of (s_ValidHop s.hops[k] _))))))
            refine wpQuiet_nil ?_
            intro w2 hw2
            have hz2 := ExtW.out hw2
            clear hw2 q0 q1 q2 q3 q4 q5 q6 q7 q8 q9
            have HE := Lib.hid (wf_no1 (s := s) (ok_no2 (t := t) hlt (by rw [HFA.out]; simp [d1])))
            try clear cf8
            try clear cf9
            try clear cf10
            have cf11 := blk2 (Ext.block (((hz1.trans hx).trans hx1).trans hz2) HB0.out.1)
            have cf12 := blk3 (Ext.block (((hz1.trans hx).trans hx1).trans hz2) HB0.out.2)
            have cf13 := blk5 (Ext.block hz2 HB1.out)
            go_wp2_with fail
            go_ret
            exact ⟨ret_bool HE.out.symm, ((((hx0.trans hz1).trans hx).trans hx1).trans hz2)⟩
          · cases d2 : isAs t s.hops[k].asn
            · have cf14 := blk2 (Ext.block ((hz1.trans hx).trans hx1) HB0.out.1)
              have cf15 := blk3 (Ext.block ((hz1.trans hx).trans hx1) HB0.out.2)
              have cf16 := blk5 HB1.out
              go_wp2_with fail
              refine wp_region_ext (by kernel_rfl) (by kernel_rfl) ?_
              have q0 := ExtW.cell (cf14.1)
              have q1 := ExtW.cell (cf14.2)
              have q2 := ExtW.cell (cf15.1)
              have q3 := ExtW.cell (cf15.2.1)
              have q4 := ExtW.cell (cf15.2.2)
              have q5 := ExtW.cell (cf16.1)
              have q6 := ExtW.cell (cf16.2.1)
              have q7 := ExtW.cell (cf16.2.2.1)
              have q8 := ExtW.cell (cf16.2.2.2.1)
              have q9 := ExtW.cell (cf16.2.2.2.2)
              repeat (first | go_big_quiet_step (((first | (go_at_call 157; exact Calls.ext_of (s_ValidHop s.hops[k] _)) | (go_at_call 158; exact Calls.ext_of (s_l5Realm t _ _ s.hops[k].asn _ ((ha.ext (((hx0.trans hz1).trans hx).trans hx1)).ext (ExtW.h _))))))) | quiet_step (((first | (go_at_call 157; exact Calls.ext_of (s_ValidHop s.hops[k] _)) | (go_at_call 158; exact Calls.ext_of (s_l5Realm t _ _ s.hops[k].asn _ ((ha.ext (((hx0.trans hz1).trans hx).trans hx1)).ext (ExtW.h _))))))))
              refine wpQuiet_nil ?_
              intro w3 hw3
              have hz3 := ExtW.out hw3
              clear hw3 q0 q1 q2 q3 q4 q5 q6 q7 q8 q9
              have HE := Lib.hid (wf_no1 (s := s) (ok_no2 (t := t) hlt (by rw [HFA.out]; simp [d1, d2])))
              try clear cf14
              try clear cf15
              try clear cf16
              have cf17 := blk2 (Ext.block (((hz1.trans hx).trans hx1).trans hz3) HB0.out.1)
              have cf18 := blk3 (Ext.block (((hz1.trans hx).trans hx1).trans hz3) HB0.out.2)
              have cf19 := blk5 (Ext.block hz3 HB1.out)
              go_wp2_with fail
              go_ret
              exact ⟨ret_bool HE.out.symm, ((((hx0.trans hz1).trans hx).trans hx1).trans hz3)⟩
            · cases d3 : hasI (li.take k) s.hops[k].asn
              · have HF2 := Lib.hid (allTo_snoc HF.out (show hopFresh t s.hops k = true by rw [HFA.out, d1, d2, d3]; rfl))
                cases b5 : (s.hops[k].eg == 0)
                · have cf20 := blk2 (Ext.block ((hz1.trans hx).trans hx1) HB0.out.1)
                  have cf21 := blk3 (Ext.block ((hz1.trans hx).trans hx1) HB0.out.2)
                  have cf22 := blk5 HB1.out
                  go_wp2_with fail
                  refine wp_region_ext (by kernel_rfl) (by kernel_rfl) ?_
                  have q0 := ExtW.cell (cf20.1)
                  have q1 := ExtW.cell (cf20.2)
                  have q2 := ExtW.cell (cf21.1)
                  have q3 := ExtW.cell (cf21.2.1)
                  have q4 := ExtW.cell (cf21.2.2)
                  have q5 := ExtW.cell (cf22.1)
                  have q6 := ExtW.cell (cf22.2.1)
                  have q7 := ExtW.cell (cf22.2.2.1)
                  have q8 := ExtW.cell (cf22.2.2.2.1)
                  have q9 := ExtW.cell (cf22.2.2.2.2)
                  repeat (first | go_big_quiet_step (((first | (go_at_call 157; exact Calls.ext_of (s_ValidHop s.hops[k] _)) | (go_at_call 158; exact Calls.ext_of (s_l5Realm t _ _ s.hops[k].asn _ ((ha.ext (((hx0.trans hz1).trans hx).trans hx1)).ext (ExtW.h _)))) | (go_at_call 159; exact Calls.ext_same (s_l9Has (li.take k) _ s.hops[k].asn _ (RdS.pre ((rl.ext (hx.trans hx1)).ext (ExtW.h _)) k hkli)))))) | quiet_step (((first | (go_at_call 157; exact Calls.ext_of (s_ValidHop s.hops[k] _)) | (go_at_call 158; exact Calls.ext_of (s_l5Realm t _ _ s.hops[k].asn _ ((ha.ext (((hx0.trans hz1).trans hx).trans hx1)).ext (ExtW.h _)))) | (go_at_call 159; exact Calls.ext_same (s_l9Has (li.take k) _ s.hops[k].asn _ (RdS.pre ((rl.ext (hx.trans hx1)).ext (ExtW.h _)) k hkli)))))))
                  refine wpQuiet_nil ?_
                  intro w4 hw4
                  have hz4 := ExtW.out hw4
                  clear hw4 q0 q1 q2 q3 q4 q5 q6 q7 q8 q9
                  have HEND : Hid ((s.hops[k].eg == 0) = false ∨ ¬ k + 1 < s.hops.length) := Lib.hid (.inl b5)
                  clear d1 d2 d3
                  rcases Nat.eq_zero_or_pos k with hk0 | hk0
                  · have hkz : ¬ (0 : Int) < (k : Int) := by omega
                    have HE := Lib.hid (allTo_snoc HK.out (show wfJoin t s.hops k = true by subst hk0; exact join_zero h0 HEND.out))
                    clear hk0
                    try clear cf20
                    try clear cf21
                    try clear cf22
                    have cf23 := blk2 (Ext.block (((hz1.trans hx).trans hx1).trans hz4) HB0.out.1)
                    have cf24 := blk3 (Ext.block (((hz1.trans hx).trans hx1).trans hz4) HB0.out.2)
                    have cf25 := blk5 (Ext.block hz4 HB1.out)
                    go_wp2_with fail
                    go_roundg (gk - 1)
                    case measure => have h1 := HGK.out; omega
                    case rel => exact ⟨k + 1, by have h1 := HGK.out; omega, congrArg (Value.int .i64) (by first | omega | (unfold wrap64; omega)), HF2, HE, ((hx.trans hx1).trans hz4)⟩
                  · obtain ⟨j, rfl⟩ : ∃ j, k = j + 1 := ⟨k - 1, by omega⟩
                    have hkz : (0 : Int) < ((j + 1 : Nat) : Int) := by omega
                    have hj1 : ((j + 1 : Nat) : Int) - 1 = (j : Int) := by omega
                    have hjl : j < s.hops.length := by omega
                    have hj4 : (j : Int) < (s.hops.length : Int) := by omega
                    have HJ := Lib.hid (join_at (t := t) hlt HEND.out)
                    obtain ⟨b2, off2, hbo, hd⟩ := Hop.at (r.ext ((((hx0.trans hz1).trans hx).trans hx1).trans hz4)) j hjl
                    cases hbo
                    try clear cf20
                    try clear cf21
                    try clear cf22
                    have cf26 := blk2 (Ext.block (((hz1.trans hx).trans hx1).trans hz4) HB0.out.1)
                    have cf27 := blk3 (Ext.block (((hz1.trans hx).trans hx1).trans hz4) HB0.out.2)
                    have cf28 := blk5 (Ext.block hz4 HB1.out)
                    go_wp2_with fail
                    refine wp_region_ext (by kernel_rfl) (by kernel_rfl) ?_
                    have q0 := ExtW.cell (cf26.1)
                    have q1 := ExtW.cell (cf26.2)
                    have q2 := ExtW.cell (cf27.1)
                    have q3 := ExtW.cell (cf27.2.1)
                    have q4 := ExtW.cell (cf27.2.2)
                    have q5 := ExtW.cell (cf28.1)
                    have q6 := ExtW.cell (cf28.2.1)
                    have q7 := ExtW.cell (cf28.2.2.1)
                    have q8 := ExtW.cell (cf28.2.2.2.1)
                    have q9 := ExtW.cell (cf28.2.2.2.2)
                    have q10 := ExtW.cell (hd.1)
                    have q11 := ExtW.cell (hd.2.1)
                    have q12 := ExtW.cell (hd.2.2.1)
                    have q13 := ExtW.cell (hd.2.2.2.1)
                    have q14 := ExtW.cell (hd.2.2.2.2)
                    repeat (first | go_big_quiet_step (((first | (go_at_call 160; exact Calls.ext_of (s_RemoteEnd t _ _ s.hops[j].asn s.hops[j].eg _ ((hk.ext ((((hx0.trans hz1).trans hx).trans hx1).trans hz4)).ext (ExtW.h _))))))) | quiet_step (((first | (go_at_call 160; exact Calls.ext_of (s_RemoteEnd t _ _ s.hops[j].asn s.hops[j].eg _ ((hk.ext ((((hx0.trans hz1).trans hx).trans hx1).trans hz4)).ext (ExtW.h _))))))))
                    refine wpQuiet_nil ?_
                    intro w5 hw5
                    have hz5 := ExtW.out hw5
                    clear hw5 q0 q1 q2 q3 q4 q5 q6 q7 q8 q9 q10 q11 q12 q13 q14
                    generalize hR : remEnd t s.hops[j].asn s.hops[j].eg = R at *
                    have HR := Lib.hid hR
                    clear hR
                    cases c1 : (R.1 == s.hops[j + 1].asn)
                    · have c1' : (R.1 != s.hops[j + 1].asn) = true := by simp only [bne, c1]; rfl
                      have HE := Lib.hid (wf_no3 (t := t) hlt (show wfJoin t s.hops (j + 1) = false by rw [HJ.out]; simp [c1]))
                      try clear cf26
                      try clear cf27
                      try clear cf28
                      have cf29 := blk2 (Ext.block ((((hz1.trans hx).trans hx1).trans hz4).trans hz5) HB0.out.1)
                      have cf30 := blk3 (Ext.block ((((hz1.trans hx).trans hx1).trans hz4).trans hz5) HB0.out.2)
                      have cf31 := blk5 (Ext.block (hz4.trans hz5) HB1.out)
                      have cf32 := Hop.at_ext hz5 hd
                      go_wp2_with fail
                      go_ret
                      exact ⟨ret_bool HE.out.symm, (((((hx0.trans hz1).trans hx).trans hx1).trans hz4).trans hz5)⟩
                    · have c1' : (R.1 != s.hops[j + 1].asn) = false := by simp only [bne, c1]; rfl
                      cases c2 : (R.2 == s.hops[j + 1].ing)
                      · have c2' : (R.2 != s.hops[j + 1].ing) = true := by simp only [bne, c2]; rfl
                        have HE := Lib.hid (wf_no3 (t := t) hlt (show wfJoin t s.hops (j + 1) = false by rw [HJ.out]; simp [c2]))
                        try clear cf26
                        try clear cf27
                        try clear cf28
                        have cf33 := blk2 (Ext.block ((((hz1.trans hx).trans hx1).trans hz4).trans hz5) HB0.out.1)
                        have cf34 := blk3 (Ext.block ((((hz1.trans hx).trans hx1).trans hz4).trans hz5) HB0.out.2)
                        have cf35 := blk5 (Ext.block (hz4.trans hz5) HB1.out)
                        have cf36 := Hop.at_ext hz5 hd
                        go_wp2_with fail
                        go_ret
                        exact ⟨ret_bool HE.out.symm, (((((hx0.trans hz1).trans hx).trans hx1).trans hz4).trans hz5)⟩
                      · have c2' : (R.2 != s.hops[j + 1].ing) = false := by simp only [bne, c2]; rfl
                        have HE := Lib.hid (allTo_snoc HK.out (show wfJoin t s.hops (j + 1) = true by rw [HJ.out, c1, c2]; rfl))
                        try clear cf26
                        try clear cf27
                        try clear cf28
                        have cf37 := blk2 (Ext.block ((((hz1.trans hx).trans hx1).trans hz4).trans hz5) HB0.out.1)
                        have cf38 := blk3 (Ext.block ((((hz1.trans hx).trans hx1).trans hz4).trans hz5) HB0.out.2)
                        have cf39 := blk5 (Ext.block (hz4.trans hz5) HB1.out)
                        have cf40 := Hop.at_ext hz5 hd
                        go_wp2_with fail
                        go_roundg (gk - 1)
                        case measure => have h1 := HGK.out; omega
                        case rel => exact ⟨j + 1 + 1, by have h1 := HGK.out; omega, congrArg (Value.int .i64) (by first | omega | (unfold wrap64; omega)), HF2, HE, (((hx.trans hx1).trans hz4).trans hz5)⟩
                · have hend : k + 1 < s.hops.length ∨ ¬ k + 1 < s.hops.length := by omega
                  rcases hend with hend | hend
                  · have h6 : decide ((k : Int) < (s.hops.length : Int) - 1) = true := by simp; omega
                    have h6' : (k : Int) < (s.hops.length : Int) - 1 := by omega
                    have HE := Lib.hid (wf_no3 (t := t) hlt (join_no1 hlt b5 hend))
                    clear hend
                    have cf41 := blk2 (Ext.block ((hz1.trans hx).trans hx1) HB0.out.1)
                    have cf42 := blk3 (Ext.block ((hz1.trans hx).trans hx1) HB0.out.2)
                    have cf43 := blk5 HB1.out
                    go_wp2_with fail
                    refine wp_region_ext (by kernel_rfl) (by kernel_rfl) ?_
                    have q0 := ExtW.cell (cf41.1)
                    have q1 := ExtW.cell (cf41.2)
                    have q2 := ExtW.cell (cf42.1)
                    have q3 := ExtW.cell (cf42.2.1)
                    have q4 := ExtW.cell (cf42.2.2)
                    have q5 := ExtW.cell (cf43.1)
                    have q6 := ExtW.cell (cf43.2.1)
                    have q7 := ExtW.cell (cf43.2.2.1)
                    have q8 := ExtW.cell (cf43.2.2.2.1)
                    have q9 := ExtW.cell (cf43.2.2.2.2)
                    repeat (first | go_big_quiet_step (((first | (go_at_call 157; exact Calls.ext_of (s_ValidHop s.hops[k] _)) | (go_at_call 158; exact Calls.ext_of (s_l5Realm t _ _ s.hops[k].asn _ ((ha.ext (((hx0.trans hz1).trans hx).trans hx1)).ext (ExtW.h _)))) | (go_at_call 159; exact Calls.ext_same (s_l9Has (li.take k) _ s.hops[k].asn _ (RdS.pre ((rl.ext (hx.trans hx1)).ext (ExtW.h _)) k hkli)))))) | quiet_step (((first | (go_at_call 157; exact Calls.ext_of (s_ValidHop s.hops[k] _)) | (go_at_call 158; exact Calls.ext_of (s_l5Realm t _ _ s.hops[k].asn _ ((ha.ext (((hx0.trans hz1).trans hx).trans hx1)).ext (ExtW.h _)))) | (go_at_call 159; exact Calls.ext_same (s_l9Has (li.take k) _ s.hops[k].asn _ (RdS.pre ((rl.ext (hx.trans hx1)).ext (ExtW.h _)) k hkli)))))))
                    refine wpQuiet_nil ?_
                    intro w6 hw6
                    have hz6 := ExtW.out hw6
                    clear hw6 q0 q1 q2 q3 q4 q5 q6 q7 q8 q9
                    try clear cf41
                    try clear cf42
                    try clear cf43
                    have cf44 := blk2 (Ext.block (((hz1.trans hx).trans hx1).trans hz6) HB0.out.1)
                    have cf45 := blk3 (Ext.block (((hz1.trans hx).trans hx1).trans hz6) HB0.out.2)
                    have cf46 := blk5 (Ext.block hz6 HB1.out)
                    go_wp2_with fail
                    go_ret
                    exact ⟨ret_bool HE.out.symm, ((((hx0.trans hz1).trans hx).trans hx1).trans hz6)⟩
                  · have h6 : decide ((k : Int) < (s.hops.length : Int) - 1) = false := by simp; omega
                    have h6' : ¬ (k : Int) < (s.hops.length : Int) - 1 := by omega
                    have HEND : Hid ((s.hops[k].eg == 0) = false ∨ ¬ k + 1 < s.hops.length) := Lib.hid (.inr hend)
                    clear hend
                    have cf47 := blk2 (Ext.block ((hz1.trans hx).trans hx1) HB0.out.1)
                    have cf48 := blk3 (Ext.block ((hz1.trans hx).trans hx1) HB0.out.2)
                    have cf49 := blk5 HB1.out
                    go_wp2_with fail
                    refine wp_region_ext (by kernel_rfl) (by kernel_rfl) ?_
                    have q0 := ExtW.cell (cf47.1)
                    have q1 := ExtW.cell (cf47.2)
                    have q2 := ExtW.cell (cf48.1)
                    have q3 := ExtW.cell (cf48.2.1)
                    have q4 := ExtW.cell (cf48.2.2)
                    have q5 := ExtW.cell (cf49.1)
                    have q6 := ExtW.cell (cf49.2.1)
                    have q7 := ExtW.cell (cf49.2.2.1)
                    have q8 := ExtW.cell (cf49.2.2.2.1)
                    have q9 := ExtW.cell (cf49.2.2.2.2)
                    repeat (first | go_big_quiet_step (((first | (go_at_call 157; exact Calls.ext_of (s_ValidHop s.hops[k] _)) | (go_at_call 158; exact Calls.ext_of (s_l5Realm t _ _ s.hops[k].asn _ ((ha.ext (((hx0.trans hz1).trans hx).trans hx1)).ext (ExtW.h _)))) | (go_at_call 159; exact Calls.ext_same (s_l9Has (li.take k) _ s.hops[k].asn _ (RdS.pre ((rl.ext (hx.trans hx1)).ext (ExtW.h _)) k hkli)))))) | quiet_step (((first | (go_at_call 157; exact Calls.ext_of (s_ValidHop s.hops[k] _)) | (go_at_call 158; exact Calls.ext_of (s_l5Realm t _ _ s.hops[k].asn _ ((ha.ext (((hx0.trans hz1).trans hx).trans hx1)).ext (ExtW.h _)))) | (go_at_call 159; exact Calls.ext_same (s_l9Has (li.take k) _ s.hops[k].asn _ (RdS.pre ((rl.ext (hx.trans hx1)).ext (ExtW.h _)) k hkli)))))))
                    refine wpQuiet_nil ?_
                    intro w7 hw7
                    have hz7 := ExtW.out hw7
                    clear hw7 q0 q1 q2 q3 q4 q5 q6 q7 q8 q9
                    clear d1 d2 d3
                    rcases Nat.eq_zero_or_pos k with hk0 | hk0
                    · have hkz : ¬ (0 : Int) < (k : Int) := by omega
                      have HE := Lib.hid (allTo_snoc HK.out (show wfJoin t s.hops k = true by subst hk0; exact join_zero h0 HEND.out))
                      clear hk0
                      try clear cf47
                      try clear cf48
                      try clear cf49
                      have cf50 := blk2 (Ext.block (((hz1.trans hx).trans hx1).trans hz7) HB0.out.1)
                      have cf51 := blk3 (Ext.block (((hz1.trans hx).trans hx1).trans hz7) HB0.out.2)
                      have cf52 := blk5 (Ext.block hz7 HB1.out)
                      go_wp2_with fail
                      go_roundg (gk - 1)
                      case measure => have h1 := HGK.out; omega
                      case rel => exact ⟨k + 1, by have h1 := HGK.out; omega, congrArg (Value.int .i64) (by first | omega | (unfold wrap64; omega)), HF2, HE, ((hx.trans hx1).trans hz7)⟩
                    · obtain ⟨j, rfl⟩ : ∃ j, k = j + 1 := ⟨k - 1, by omega⟩
                      have hkz : (0 : Int) < ((j + 1 : Nat) : Int) := by omega
                      have hj1 : ((j + 1 : Nat) : Int) - 1 = (j : Int) := by omega
                      have hjl : j < s.hops.length := by omega
                      have hj4 : (j : Int) < (s.hops.length : Int) := by omega
                      have HJ := Lib.hid (join_at (t := t) hlt HEND.out)
                      obtain ⟨b2, off2, hbo, hd⟩ := Hop.at (r.ext ((((hx0.trans hz1).trans hx).trans hx1).trans hz7)) j hjl
                      cases hbo
                      try clear cf47
                      try clear cf48
                      try clear cf49
                      have cf53 := blk2 (Ext.block (((hz1.trans hx).trans hx1).trans hz7) HB0.out.1)
                      have cf54 := blk3 (Ext.block (((hz1.trans hx).trans hx1).trans hz7) HB0.out.2)
                      have cf55 := blk5 (Ext.block hz7 HB1.out)
                      go_wp2_with fail
                      refine wp_region_ext (by kernel_rfl) (by kernel_rfl) ?_
                      have q0 := ExtW.cell (cf53.1)
                      have q1 := ExtW.cell (cf53.2)
                      have q2 := ExtW.cell (cf54.1)
                      have q3 := ExtW.cell (cf54.2.1)
                      have q4 := ExtW.cell (cf54.2.2)
                      have q5 := ExtW.cell (cf55.1)
                      have q6 := ExtW.cell (cf55.2.1)
                      have q7 := ExtW.cell (cf55.2.2.1)
                      have q8 := ExtW.cell (cf55.2.2.2.1)
                      have q9 := ExtW.cell (cf55.2.2.2.2)
                      have q10 := ExtW.cell (hd.1)
                      have q11 := ExtW.cell (hd.2.1)
                      have q12 := ExtW.cell (hd.2.2.1)
                      have q13 := ExtW.cell (hd.2.2.2.1)
                      have q14 := ExtW.cell (hd.2.2.2.2)
                      repeat (first | go_big_quiet_step (((first | (go_at_call 160; exact Calls.ext_of (s_RemoteEnd t _ _ s.hops[j].asn s.hops[j].eg _ ((hk.ext ((((hx0.trans hz1).trans hx).trans hx1).trans hz7)).ext (ExtW.h _))))))) | quiet_step (((first | (go_at_call 160; exact Calls.ext_of (s_RemoteEnd t _ _ s.hops[j].asn s.hops[j].eg _ ((hk.ext ((((hx0.trans hz1).trans hx).trans hx1).trans hz7)).ext (ExtW.h _))))))))
                      refine wpQuiet_nil ?_
                      intro w8 hw8
                      have hz8 := ExtW.out hw8
                      clear hw8 q0 q1 q2 q3 q4 q5 q6 q7 q8 q9 q10 q11 q12 q13 q14
                      generalize hR : remEnd t s.hops[j].asn s.hops[j].eg = R at *
                      have HR := Lib.hid hR
                      clear hR
                      cases c1 : (R.1 == s.hops[j + 1].asn)
                      · have c1' : (R.1 != s.hops[j + 1].asn) = true := by simp only [bne, c1]; rfl
                        have HE := Lib.hid (wf_no3 (t := t) hlt (show wfJoin t s.hops (j + 1) = false by rw [HJ.out]; simp [c1]))
                        try clear cf53
                        try clear cf54
                        try clear cf55
                        have cf56 := blk2 (Ext.block ((((hz1.trans hx).trans hx1).trans hz7).trans hz8) HB0.out.1)
                        have cf57 := blk3 (Ext.block ((((hz1.trans hx).trans hx1).trans hz7).trans hz8) HB0.out.2)
                        have cf58 := blk5 (Ext.block (hz7.trans hz8) HB1.out)
                        have cf59 := Hop.at_ext hz8 hd
                        go_wp2_with fail
                        go_ret
                        exact ⟨ret_bool HE.out.symm, (((((hx0.trans hz1).trans hx).trans hx1).trans hz7).trans hz8)⟩
                      · have c1' : (R.1 != s.hops[j + 1].asn) = false := by simp only [bne, c1]; rfl
                        cases c2 : (R.2 == s.hops[j + 1].ing)
                        · have c2' : (R.2 != s.hops[j + 1].ing) = true := by simp only [bne, c2]; rfl
                          have HE := Lib.hid (wf_no3 (t := t) hlt (show wfJoin t s.hops (j + 1) = false by rw [HJ.out]; simp [c2]))
                          try clear cf53
                          try clear cf54
                          try clear cf55
                          have cf60 := blk2 (Ext.block ((((hz1.trans hx).trans hx1).trans hz7).trans hz8) HB0.out.1)
                          have cf61 := blk3 (Ext.block ((((hz1.trans hx).trans hx1).trans hz7).trans hz8) HB0.out.2)
                          have cf62 := blk5 (Ext.block (hz7.trans hz8) HB1.out)
                          have cf63 := Hop.at_ext hz8 hd
                          go_wp2_with fail
                          go_ret
                          exact ⟨ret_bool HE.out.symm, (((((hx0.trans hz1).trans hx).trans hx1).trans hz7).trans hz8)⟩
                        · have c2' : (R.2 != s.hops[j + 1].ing) = false := by simp only [bne, c2]; rfl
                          have HE := Lib.hid (allTo_snoc HK.out (show wfJoin t s.hops (j + 1) = true by rw [HJ.out, c1, c2]; rfl))
                          try clear cf53
                          try clear cf54
                          try clear cf55
                          have cf64 := blk2 (Ext.block ((((hz1.trans hx).trans hx1).trans hz7).trans hz8) HB0.out.1)
                          have cf65 := blk3 (Ext.block ((((hz1.trans hx).trans hx1).trans hz7).trans hz8) HB0.out.2)
                          have cf66 := blk5 (Ext.block (hz7.trans hz8) HB1.out)
                          have cf67 := Hop.at_ext hz8 hd
                          go_wp2_with fail
                          go_roundg (gk - 1)
                          case measure => have h1 := HGK.out; omega
                          case rel => exact ⟨j + 1 + 1, by have h1 := HGK.out; omega, congrArg (Value.int .i64) (by first | omega | (unfold wrap64; omega)), HF2, HE, (((hx.trans hx1).trans hz7).trans hz8)⟩
              · have cf68 := blk2 (Ext.block ((hz1.trans hx).trans hx1) HB0.out.1)
                have cf69 := blk3 (Ext.block ((hz1.trans hx).trans hx1) HB0.out.2)
                have cf70 := blk5 HB1.out
                go_wp2_with fail
                refine wp_region_ext (by kernel_rfl) (by kernel_rfl) ?_
                have q0 := ExtW.cell (cf68.1)
                have q1 := ExtW.cell (cf68.2)
                have q2 := ExtW.cell (cf69.1)
                have q3 := ExtW.cell (cf69.2.1)
                have q4 := ExtW.cell (cf69.2.2)
                have q5 := ExtW.cell (cf70.1)
                have q6 := ExtW.cell (cf70.2.1)
                have q7 := ExtW.cell (cf70.2.2.1)
                have q8 := ExtW.cell (cf70.2.2.2.1)
                have q9 := ExtW.cell (cf70.2.2.2.2)
                repeat (first | go_big_quiet_step (((first | (go_at_call 157; exact Calls.ext_of (s_ValidHop s.hops[k] _)) | (go_at_call 158; exact Calls.ext_of (s_l5Realm t _ _ s.hops[k].asn _ ((ha.ext (((hx0.trans hz1).trans hx).trans hx1)).ext (ExtW.h _)))) | (go_at_call 159; exact Calls.ext_same (s_l9Has (li.take k) _ s.hops[k].asn _ (RdS.pre ((rl.ext (hx.trans hx1)).ext (ExtW.h _)) k hkli)))))) | quiet_step (((first | (go_at_call 157; exact Calls.ext_of (s_ValidHop s.hops[k] _)) | (go_at_call 158; exact Calls.ext_of (s_l5Realm t _ _ s.hops[k].asn _ ((ha.ext (((hx0.trans hz1).trans hx).trans hx1)).ext (ExtW.h _)))) | (go_at_call 159; exact Calls.ext_same (s_l9Has (li.take k) _ s.hops[k].asn _ (RdS.pre ((rl.ext (hx.trans hx1)).ext (ExtW.h _)) k hkli)))))))
                refine wpQuiet_nil ?_
                intro w9 hw9
                have hz9 := ExtW.out hw9
                clear hw9 q0 q1 q2 q3 q4 q5 q6 q7 q8 q9
                have HE := Lib.hid (wf_no1 (s := s) (ok_no2 (t := t) hlt (by rw [HFA.out]; simp [d1, d2, d3])))
                try clear cf68
                try clear cf69
                try clear cf70
                have cf71 := blk2 (Ext.block (((hz1.trans hx).trans hx1).trans hz9) HB0.out.1)
                have cf72 := blk3 (Ext.block (((hz1.trans hx).trans hx1).trans hz9) HB0.out.2)
                have cf73 := blk5 (Ext.block hz9 HB1.out)
                go_wp2_with fail
                go_ret
                exact ⟨ret_bool HE.out.symm, ((((hx0.trans hz1).trans hx).trans hx1).trans hz9)⟩
        · obtain rfl : k = s.hops.length := by omega
          have HE := Lib.hid (wf_yes (ok_yes B1.out HF.out) h0 B2.out HK.out)
          try clear cf3
          try clear cf4
          try clear cf5
          have cf74 := blk2 (Ext.block (hz1.trans hx) HB0.out.1)
          have cf75 := blk3 (Ext.block (hz1.trans hx) HB0.out.2)
          go_wp2_with fail
          go_ret
          exact ⟨ret_bool HE.out.symm, ((hx0.trans hz1).trans hx)⟩


def kindGo (t : Topo) : Int → List Hop → Int
  | kd, [] => if kd == 1 then 1 else if kd == 2 then 2 else 0
  | kd, h :: l => if h.eg == 0 then kindGo t kd l else if (kd != 0) && (ifKind t h.asn h.eg != kd) then 0 else kindGo t (ifKind t h.asn h.eg) l
def segKind (t : Topo) (s : Seg) : Int := if wfSeg t s && (asAt t (hopAt s.hops 0).asn).core then kindGo t 0 s.hops else 0
def validSeg (t : Topo) (s : Seg) : Bool := wfSeg t s && decide (firstBad t s < 0) && (segKind t s != 0) && inR s.ts 0 1000000 && isRes s.beta
def segUsable (t : Topo) (s : Seg) (now : Int) : Bool := validSeg t s && isTerm s && decide (s.ts ≤ now) && decide (now ≤ leastExp s.hops)
theorem wf_facts {t : Topo} {s : Seg} (h : wfSeg t s = true) : 0 < s.hops.length ∧ isAs t (hopAt s.hops 0).asn = true := by
  unfold wfSeg at h
  simp only [Bool.and_eq_true] at h
  have hl := wf_len' h.1.1
  refine ⟨by omega, ?_⟩
  have h1 := h.1.1
  unfold hopsOk at h1
  simp only [Bool.and_eq_true] at h1
  have h2 := allTo_true.1 h1.2 0 (by omega)
  unfold hopFresh at h2
  simp only [Bool.and_eq_true] at h2
  exact h2.1.2
theorem kind_skip {t : Topo} {l : List Hop} {k : Nat} {kd : Int} (hk : k < l.length) (h : (l[k].eg == 0) = true) : kindGo t kd (l.drop k) = kindGo t kd (l.drop (k + 1)) := by
  rw [List.drop_eq_getElem_cons hk]; conv => lhs; unfold kindGo
  rw [h]; rfl
theorem kind_bad {t : Topo} {l : List Hop} {k : Nat} {kd : Int} (hk : k < l.length) (h : (l[k].eg == 0) = false) (h1 : (kd == 0) = false) (h2 : (ifKind t l[k].asn l[k].eg == kd) = false) : kindGo t kd (l.drop k) = 0 := by
  rw [List.drop_eq_getElem_cons hk]; unfold kindGo
  simp [h, bne, h1, h2]
theorem kind_go {t : Topo} {l : List Hop} {k : Nat} {kd : Int} (hk : k < l.length) (h : (l[k].eg == 0) = false) (h1 : (kd == 0) = true ∨ (ifKind t l[k].asn l[k].eg == kd) = true) : kindGo t kd (l.drop k) = kindGo t (ifKind t l[k].asn l[k].eg) (l.drop (k + 1)) := by
  rw [List.drop_eq_getElem_cons hk]; conv => lhs; unfold kindGo
  rcases h1 with h1 | h1 <;> simp [h, bne, h1]

set_option maxRecDepth 100000 in
set_option maxHeartbeats 1000000 in
theorem i_isCore (t : Topo) (v1 v2 : Value) (q : Int) (w : World) (ha : RdS ASd.rep w v1 t.ases) :
    Calls Try.prog 125 #[.agg #[v1, v2], .int .i64 q] w fun e w' => e = .returned (.bool (isAs t q && (asAt t q).core)) ∧ Ext w w' := by
  obtain ⟨o, cap, rfl, hsm⟩ := ha.shape
  have hx0 : Ext w (w.alloc (.cells #[.slice o t.ases.length cap, v2] 59)) := (Ext.refl _).alloc _
  have HB0 := Lib.hid (blk_new w (.cells #[.slice o t.ases.length cap, v2] 59))
  go_enter Try.func125, Try.ntmps125
  have cf1 := blk2 HB0.out
  go_wp2_with fail
  refine (i_isAS t _ v2 q _ (ha.ext hx0)).mono ?_
  rintro e w1 ⟨rfl, hz1⟩
  cases b : isAs t q
  · try clear cf1
    have cf2 := blk2 (Ext.block hz1 HB0.out)
    go_wp2_with fail
    go_ret
    exact ⟨ret_bool (by rw [b]; rfl), (hx0.trans hz1)⟩
  · obtain ⟨h0, h1⟩ := isAs_lt b
    obtain ⟨n, rfl⟩ := Int.eq_ofNat_of_zero_le h0
    have hn : n < t.ases.length := by simpa using h1
    have hn2 : (n : Int) < t.ases.length := by omega
    obtain ⟨b1, off, rfl, hc⟩ := ASd.at (ha.ext (hx0.trans hz1)) n hn
    have HE := Lib.hid (show (asAt t n).core = t.ases[n].core by rw [asAt_at h0 h1]; rfl)
    try clear cf1
    have cf3 := blk2 (Ext.block hz1 HB0.out)
    go_wp2_with fail
    go_ret
    exact ⟨ret_bool (by rw [HE.out, b]; rfl), (hx0.trans hz1)⟩

set_option maxRecDepth 100000 in
set_option maxHeartbeats 1000000 in
theorem s_FirstAS (s : Seg) (v : Value) (w : World) (r : RdS Hop.rep w v s.hops) (h0 : 0 < s.hops.length) (q : Int) (hq : s.hops[0].asn = q) :
    Calls Try.prog 128 #[.agg #[.int .i64 s.ts, .int .i64 s.beta, v]] w fun e w' => e = .returned (.int .i64 (q)) ∧ Ext w w' := by
  obtain ⟨o, cap, rfl, hsm⟩ := r.shape
  have hx0 : Ext w (w.alloc (.cells #[.int .i64 s.ts, .int .i64 s.beta, .slice o s.hops.length cap] 62)) := (Ext.refl _).alloc _
  have HB0 := Lib.hid (blk_new w (.cells #[.int .i64 s.ts, .int .i64 s.beta, .slice o s.hops.length cap] 62))
  go_enter Try.func128, Try.ntmps128
  obtain ⟨b, off, rfl, hc⟩ := Hop.at (r.ext hx0) 0 h0
  simp only [Nat.zero_mul, Nat.add_zero] at hc
  have h1 : ((s.hops.length : Int) == 0) = false := by simp; exact List.ne_nil_of_length_pos h0
  have h2 : (0 : Int) < (s.hops.length : Int) := by omega
  have HE := Lib.hid hq
  clear hq
  have cf1 := blk3 HB0.out
  go_wp2_with fail
  go_ret
  exact ⟨ret_int HE.out, hx0⟩

set_option maxRecDepth 100000 in
set_option maxHeartbeats 8000000 in
theorem i_SegmentKind (t : Topo) (v1 v2 : Value) (s : Seg) (v : Value)  (w : World) (ha : RdS ASd.rep w v1 t.ases) (hk : RdS Lnk.rep w v2 t.links) (r : RdS Hop.rep w v s.hops) (hl : s.hops.length ≤ 1048576) :
    Calls Try.prog 49 #[.agg #[v1, v2], .agg #[.int .i64 s.ts, .int .i64 s.beta, v]] w fun e w' => e = .returned (.int .i64 (segKind t s)) ∧ Ext w w' := by
  obtain ⟨o, cap, rfl, hsm⟩ := r.shape
  have hx0 := ext2 w (.cells #[v1, v2] 59) (.cells #[.int .i64 s.ts, .int .i64 s.beta, .slice o s.hops.length cap] 62)
  have HB0 := Lib.hid (al2 w (.cells #[v1, v2] 59) (.cells #[.int .i64 s.ts, .int .i64 s.beta, .slice o s.hops.length cap] 62))
  go_enter Try.func49, Try.ntmps49
  obtain ⟨W0, hW0⟩ : ∃ W0 : World, W0 = ((w.alloc (.cells #[v1, v2] 59)).alloc (.cells #[.int .i64 s.ts, .int .i64 s.beta, .slice o s.hops.length cap] 62)) := ⟨_, rfl⟩
  rw [← hW0] at hx0 HB0
  obtain ⟨oA, cA, rfl, _⟩ := ha.shape
  have cf1 := blk2 HB0.out.1
  have cf2 := blk3 HB0.out.2
  go_wp2_with fail
  rw [← hW0]
  clear hW0
  cases bb : wfSeg t s
  · have HE := Lib.hid (show segKind t s = 0 by unfold segKind; rw [bb]; rfl)
    have cf3 := blk2 HB0.out.1
    have cf4 := blk3 HB0.out.2
    go_wp2_with fail
    refine wp_region_ext (by kernel_rfl) (by kernel_rfl) ?_
    have q0 := ExtW.cell (cf3.1)
    have q1 := ExtW.cell (cf3.2)
    have q2 := ExtW.cell (cf4.1)
    have q3 := ExtW.cell (cf4.2.1)
    have q4 := ExtW.cell (cf4.2.2)
    repeat (first | go_big_quiet_step (((first | (go_at_call 124; exact Calls.ext_of (i_WellFormed t _ _ s _ _ ((ha.ext hx0).ext (ExtW.h _)) ((hk.ext hx0).ext (ExtW.h _)) ((r.ext hx0).ext (ExtW.h _)) hl))))) | quiet_step (((first | (go_at_call 124; exact Calls.ext_of (i_WellFormed t _ _ s _ _ ((ha.ext hx0).ext (ExtW.h _)) ((hk.ext hx0).ext (ExtW.h _)) ((r.ext hx0).ext (ExtW.h _)) hl))))))
    refine wpQuiet_nil ?_
    intro w1 hw1
    have hz1 := ExtW.out hw1
    clear hw1 q0 q1 q2 q3 q4
    go_wp2_with fail
    go_ret
    exact ⟨ret_int HE.out.symm, (hx0.trans hz1)⟩
  · obtain ⟨h0, hA⟩ := wf_facts bb
    obtain ⟨b, off, rfl, hc0⟩ := Hop.at (r.ext hx0) 0 h0
    have h00 : (0 : Int) < (s.hops.length : Int) := by omega
    simp only [Nat.zero_mul, Nat.add_zero] at hc0
    have hx00 : hopAt s.hops 0 = s.hops[0] := hopAt_at h0
    rw [hx00] at hA
    have HX0 := Lib.hid hx00
    clear hx00
    obtain ⟨hp1, hp2⟩ := isAs_lt hA
    have hp3 : s.hops[0].asn < t.ases.length := by omega
    obtain ⟨bA, offA, rfl, hcA⟩ := ASd.at (ha.ext hx0) s.hops[0].asn.toNat hp2
    have HC := Lib.hid (show (asAt t s.hops[0].asn).core = t.ases[s.hops[0].asn.toNat].core by rw [asAt_at hp1 hp2])
    cases bc : t.ases[s.hops[0].asn.toNat].core
    · have HE := Lib.hid (show segKind t s = 0 by unfold segKind; rw [HX0.out, HC.out, bc, bb]; rfl)
      have hcz : (asAt t s.hops[0].asn).core = false := by rw [HC.out, bc]
      try clear cf1
      try clear cf2
      have cf5 := blk2 HB0.out.1
      have cf6 := blk3 HB0.out.2
      go_wp2_with fail
      refine wp_region_ext (by kernel_rfl) (by kernel_rfl) ?_
      have q0 := ExtW.cell (cf5.1)
      have q1 := ExtW.cell (cf5.2)
      have q2 := ExtW.cell (cf6.1)
      have q3 := ExtW.cell (cf6.2.1)
      have q4 := ExtW.cell (cf6.2.2)
      have q5 := ExtW.cell (hc0.1)
      have q6 := ExtW.cell (hc0.2.1)
      have q7 := ExtW.cell (hc0.2.2.1)
      have q8 := ExtW.cell (hc0.2.2.2.1)
      have q9 := ExtW.cell (hc0.2.2.2.2)
      have q10 := ExtW.cell (hcA.1)
      have q11 := ExtW.cell (hcA.2.1)
      have q12 := ExtW.cell (hcA.2.2)
      repeat (first | go_big_quiet_step (((first | (go_at_call 124; exact Calls.ext_of (i_WellFormed t _ _ s _ _ ((ha.ext hx0).ext (ExtW.h _)) ((hk.ext hx0).ext (ExtW.h _)) ((r.ext hx0).ext (ExtW.h _)) hl)) | (go_at_call 125; exact Calls.ext_of (i_isCore t _ _ s.hops[0].asn _ ((ha.ext hx0).ext (ExtW.h _))))))) | quiet_step (((first | (go_at_call 124; exact Calls.ext_of (i_WellFormed t _ _ s _ _ ((ha.ext hx0).ext (ExtW.h _)) ((hk.ext hx0).ext (ExtW.h _)) ((r.ext hx0).ext (ExtW.h _)) hl)) | (go_at_call 125; exact Calls.ext_of (i_isCore t _ _ s.hops[0].asn _ ((ha.ext hx0).ext (ExtW.h _))))))))
      refine wpQuiet_nil ?_
      intro w2 hw2
      have hz2 := ExtW.out hw2
      clear hw2 q0 q1 q2 q3 q4 q5 q6 q7 q8 q9 q10 q11 q12
      go_wp2_with fail
      go_ret
      exact ⟨ret_int HE.out.symm, (hx0.trans hz2)⟩
    · have HE := Lib.hid (show segKind t s = kindGo t 0 (s.hops.drop 0) by unfold segKind; rw [HX0.out, HC.out, bc, bb]; rfl)
      have hcz : (asAt t s.hops[0].asn).core = true := by rw [HC.out, bc]
      try clear cf1
      try clear cf2
      have cf7 := blk2 HB0.out.1
      have cf8 := blk3 HB0.out.2
      go_wp2_with fail
      refine wp_region_ext (by kernel_rfl) (by kernel_rfl) ?_
      have q0 := ExtW.cell (cf7.1)
      have q1 := ExtW.cell (cf7.2)
      have q2 := ExtW.cell (cf8.1)
      have q3 := ExtW.cell (cf8.2.1)
      have q4 := ExtW.cell (cf8.2.2)
      have q5 := ExtW.cell (hc0.1)
      have q6 := ExtW.cell (hc0.2.1)
      have q7 := ExtW.cell (hc0.2.2.1)
      have q8 := ExtW.cell (hc0.2.2.2.1)
      have q9 := ExtW.cell (hc0.2.2.2.2)
      have q10 := ExtW.cell (hcA.1)
      have q11 := ExtW.cell (hcA.2.1)
      have q12 := ExtW.cell (hcA.2.2)
      repeat (first | go_big_quiet_step (((first | (go_at_call 124; exact Calls.ext_of (i_WellFormed t _ _ s _ _ ((ha.ext hx0).ext (ExtW.h _)) ((hk.ext hx0).ext (ExtW.h _)) ((r.ext hx0).ext (ExtW.h _)) hl)) | (go_at_call 125; exact Calls.ext_of (i_isCore t _ _ s.hops[0].asn _ ((ha.ext hx0).ext (ExtW.h _))))))) | quiet_step (((first | (go_at_call 124; exact Calls.ext_of (i_WellFormed t _ _ s _ _ ((ha.ext hx0).ext (ExtW.h _)) ((hk.ext hx0).ext (ExtW.h _)) ((r.ext hx0).ext (ExtW.h _)) hl)) | (go_at_call 125; exact Calls.ext_of (i_isCore t _ _ s.hops[0].asn _ ((ha.ext hx0).ext (ExtW.h _))))))))
      refine wpQuiet_nil ?_
      intro w3 hw3
      have hz3 := ExtW.out hw3
      clear hw3 q0 q1 q2 q3 q4 q5 q6 q7 q8 q9 q10 q11 q12
      try clear cf7
      try clear cf8
      have cf9 := blk2 (Ext.block hz3 HB0.out.1)
      have cf10 := blk3 (Ext.block hz3 HB0.out.2)
      go_wp2_with fail
      clear hc0 hcA bc bb hA hcz
      go_loopg [5, 26] s.hops.length (fun gk kd i wr => ∃ (k : Nat) (n : Int), gk + k = s.hops.length ∧ kd = .int .i64 n ∧ i = .int .i64 k ∧ Hid (segKind t s = kindGo t n (s.hops.drop k)) ∧ Ext w3 wr)
      case atStart => exact ⟨0, 0, by omega, rfl, rfl, HE, Ext.refl _⟩
      case round =>
        obtain ⟨k, n, hgk, rfl, rfl, HK, hx⟩ := hrel
        have HGK := Lib.hid hgk
        clear hgk
        have hkl : k ≤ s.hops.length := by have h1 := HGK.out; omega
        by_cases hlt : k < s.hops.length
        · obtain ⟨b', off', hbo, hc⟩ := Hop.at (r.ext ((hx0.trans hz3).trans hx)) k hlt
          cases hbo
          have h4 : (k : Int) < (s.hops.length : Int) := by omega
          try clear cf9
          try clear cf10
          have cf11 := blk2 (Ext.block (hz3.trans hx) HB0.out.1)
          have cf12 := blk3 (Ext.block (hz3.trans hx) HB0.out.2)
          go_upto_region 7 with (fail)
          try clear cf11
          try clear cf12
          clear hc
          have hx1 : Ext wr (wr.alloc (.cells #[.int .i64 s.hops[k].asn, .int .i64 s.hops[k].ing, .int .i64 s.hops[k].eg, .int .i64 s.hops[k].exp, .int .i64 s.hops[k].mac] 73)) := (Ext.refl _).alloc _
          have HB1 := Lib.hid (blk_new wr (.cells #[.int .i64 s.hops[k].asn, .int .i64 s.hops[k].ing, .int .i64 s.hops[k].eg, .int .i64 s.hops[k].exp, .int .i64 s.hops[k].mac] 73))
          obtain ⟨wa, hwa⟩ : ∃ wa : World, wa = wr.alloc (.cells #[.int .i64 s.hops[k].asn, .int .i64 s.hops[k].ing, .int .i64 s.hops[k].eg, .int .i64 s.hops[k].exp, .int .i64 s.hops[k].mac] 73) := ⟨_, rfl⟩
          rw [← hwa]
          rw [← hwa] at hx1 HB1
          clear hwa
          cases b5 : (s.hops[k].eg == 0)
          · have cf13 := blk2 (Ext.block ((hz3.trans hx).trans hx1) HB0.out.1)
            have cf14 := blk3 (Ext.block ((hz3.trans hx).trans hx1) HB0.out.2)
            have cf15 := blk5 HB1.out
            go_wp2_with fail
            refine (i_InterfaceKind t _ _ s.hops[k].asn s.hops[k].eg _ (hk.ext (((hx0.trans hz3).trans hx).trans hx1))).mono ?_
            rintro e w4 ⟨rfl, hz4⟩
            generalize hik : ifKind t s.hops[k].asn s.hops[k].eg = ik
            have HIK := Lib.hid hik
            clear hik
            cases k0 : (n == 0)
            · have k0' : (n != 0) = true := by simp only [bne, k0]; rfl
              cases k1 : (ik == n)
              · have k1' : (ik != n) = true := by simp only [bne, k1]; rfl
                have HE2 := Lib.hid (HK.out.trans (kind_bad hlt b5 k0 (by rw [HIK.out]; exact k1)))
                try clear cf13
                try clear cf14
                try clear cf15
                have cf16 := blk2 (Ext.block (((hz3.trans hx).trans hx1).trans hz4) HB0.out.1)
                have cf17 := blk3 (Ext.block (((hz3.trans hx).trans hx1).trans hz4) HB0.out.2)
                have cf18 := blk5 (Ext.block hz4 HB1.out)
                go_wp2_with fail
                go_ret
                exact ⟨ret_int HE2.out.symm, ((((hx0.trans hz3).trans hx).trans hx1).trans hz4)⟩
              · have k1' : (ik != n) = false := by simp only [bne, k1]; rfl
                have HE2 := Lib.hid (HK.out.trans (kind_go hlt b5 (.inr (by rw [HIK.out]; exact k1))))
                rw [HIK.out] at HE2
                have hin : ik = n := by simpa using k1
                subst hin
                try clear cf13
                try clear cf14
                try clear cf15
                have cf19 := blk2 (Ext.block (((hz3.trans hx).trans hx1).trans hz4) HB0.out.1)
                have cf20 := blk3 (Ext.block (((hz3.trans hx).trans hx1).trans hz4) HB0.out.2)
                have cf21 := blk5 (Ext.block hz4 HB1.out)
                go_wp2_with fail
                go_roundg (gk - 1)
                case measure => have h1 := HGK.out; omega
                case rel => exact ⟨k + 1, _, by have h1 := HGK.out; omega, rfl, congrArg (Value.int .i64) (by first | omega | (unfold wrap64; omega)), HE2, ((hx.trans hx1).trans hz4)⟩
            · have k0' : (n != 0) = false := by simp only [bne, k0]; rfl
              have HE2 := Lib.hid (HK.out.trans (kind_go hlt b5 (.inl k0)))
              rw [HIK.out] at HE2
              try clear cf13
              try clear cf14
              try clear cf15
              have cf22 := blk2 (Ext.block (((hz3.trans hx).trans hx1).trans hz4) HB0.out.1)
              have cf23 := blk3 (Ext.block (((hz3.trans hx).trans hx1).trans hz4) HB0.out.2)
              have cf24 := blk5 (Ext.block hz4 HB1.out)
              go_wp2_with fail
              go_roundg (gk - 1)
              case measure => have h1 := HGK.out; omega
              case rel => exact ⟨k + 1, _, by have h1 := HGK.out; omega, rfl, congrArg (Value.int .i64) (by first | omega | (unfold wrap64; omega)), HE2, ((hx.trans hx1).trans hz4)⟩
          · have HE2 := Lib.hid (HK.out.trans (kind_skip (t := t) hlt b5))
            have cf25 := blk2 (Ext.block ((hz3.trans hx).trans hx1) HB0.out.1)
            have cf26 := blk3 (Ext.block ((hz3.trans hx).trans hx1) HB0.out.2)
            have cf27 := blk5 HB1.out
            go_wp2_with fail
            go_roundg (gk - 1)
            case measure => have h1 := HGK.out; omega
            case rel => exact ⟨k + 1, _, by have h1 := HGK.out; omega, rfl, congrArg (Value.int .i64) (by first | omega | (unfold wrap64; omega)), HE2, (hx.trans hx1)⟩
        · obtain rfl : k = s.hops.length := by omega
          have HE2 : Hid (segKind t s = if n == 1 then 1 else if n == 2 then 2 else 0) := Lib.hid (by rw [HK.out, List.drop_length]; rfl)
          cases k1 : (n == 1)
          · cases k2 : (n == 2)
            · try clear cf9
              try clear cf10
              have cf28 := blk2 (Ext.block (hz3.trans hx) HB0.out.1)
              have cf29 := blk3 (Ext.block (hz3.trans hx) HB0.out.2)
              go_wp2_with fail
              go_ret
              exact ⟨ret_int (by rw [HE2.out, k1, k2]; rfl), ((hx0.trans hz3).trans hx)⟩
            · try clear cf9
              try clear cf10
              have cf30 := blk2 (Ext.block (hz3.trans hx) HB0.out.1)
              have cf31 := blk3 (Ext.block (hz3.trans hx) HB0.out.2)
              go_wp2_with fail
              go_ret
              exact ⟨ret_int (by rw [HE2.out, k1, k2]; rfl), ((hx0.trans hz3).trans hx)⟩
          · try clear cf9
            try clear cf10
            have cf32 := blk2 (Ext.block (hz3.trans hx) HB0.out.1)
            have cf33 := blk3 (Ext.block (hz3.trans hx) HB0.out.2)
            go_wp2_with fail
            go_ret
            exact ⟨ret_int (by rw [HE2.out, k1]; rfl), ((hx0.trans hz3).trans hx)⟩

set_option maxRecDepth 100000 in
set_option maxHeartbeats 8000000 in
theorem s_SegmentKind (t : Topo) (v1 v2 : Value) (s : Seg) (v : Value)  (w : World) (ha : RdS ASd.rep w v1 t.ases) (hk : RdS Lnk.rep w v2 t.links) (r : RdS Hop.rep w v s.hops) (hl : s.hops.length ≤ 1048576) :
    Calls Try.prog 50 #[.agg #[v1, v2], .agg #[.int .i64 s.ts, .int .i64 s.beta, v]] w fun e w' => e = .returned (.int .i64 (segKind t s)) ∧ Ext w w' := by
  obtain ⟨o, cap, rfl, hsm⟩ := r.shape
  have hx0 := ext2 w (.cells #[v1, v2] 59) (.cells #[.int .i64 s.ts, .int .i64 s.beta, .slice o s.hops.length cap] 62)
  have HB0 := Lib.hid (al2 w (.cells #[v1, v2] 59) (.cells #[.int .i64 s.ts, .int .i64 s.beta, .slice o s.hops.length cap] 62))
  go_enter Try.func50, Try.ntmps50
  obtain ⟨W0, hW0⟩ : ∃ W0 : World, W0 = ((w.alloc (.cells #[v1, v2] 59)).alloc (.cells #[.int .i64 s.ts, .int .i64 s.beta, .slice o s.hops.length cap] 62)) := ⟨_, rfl⟩
  rw [← hW0] at hx0 HB0
  obtain ⟨oA, cA, rfl, _⟩ := ha.shape
  have cf1 := blk2 HB0.out.1
  have cf2 := blk3 HB0.out.2
  go_wp2_with fail
  rw [← hW0]
  clear hW0
  cases bb : wfSeg t s
  · have HE := Lib.hid (show segKind t s = 0 by unfold segKind; rw [bb]; rfl)
    have cf3 := blk2 HB0.out.1
    have cf4 := blk3 HB0.out.2
    go_wp2_with fail
    refine wp_region_ext (by kernel_rfl) (by kernel_rfl) ?_
    have q0 := ExtW.cell (cf3.1)
    have q1 := ExtW.cell (cf3.2)
    have q2 := ExtW.cell (cf4.1)
    have q3 := ExtW.cell (cf4.2.1)
    have q4 := ExtW.cell (cf4.2.2)
    repeat (first | go_big_quiet_step (((first | (go_at_call 127; exact Calls.ext_of (s_WellFormed t _ _ s _ _ ((ha.ext hx0).ext (ExtW.h _)) ((hk.ext hx0).ext (ExtW.h _)) ((r.ext hx0).ext (ExtW.h _)) hl))))) | quiet_step (((first | (go_at_call 127; exact Calls.ext_of (s_WellFormed t _ _ s _ _ ((ha.ext hx0).ext (ExtW.h _)) ((hk.ext hx0).ext (ExtW.h _)) ((r.ext hx0).ext (ExtW.h _)) hl))))))
    refine wpQuiet_nil ?_
    intro w1 hw1
    have hz1 := ExtW.out hw1
    clear hw1 q0 q1 q2 q3 q4
    go_wp2_with fail
    go_ret
    exact ⟨ret_int HE.out.symm, (hx0.trans hz1)⟩
  · obtain ⟨h0, hA⟩ := wf_facts bb
    obtain ⟨b, off, rfl, hc0⟩ := Hop.at (r.ext hx0) 0 h0
    have h00 : (0 : Int) < (s.hops.length : Int) := by omega
    simp only [Nat.zero_mul, Nat.add_zero] at hc0
    have hx00 : hopAt s.hops 0 = s.hops[0] := hopAt_at h0
    rw [hx00] at hA
    have HX0 := Lib.hid hx00
    clear hx00
    obtain ⟨hp1, hp2⟩ := isAs_lt hA
    have hp3 : s.hops[0].asn < t.ases.length := by omega
    obtain ⟨bA, offA, rfl, hcA⟩ := ASd.at (ha.ext hx0) s.hops[0].asn.toNat hp2
    have HC := Lib.hid (show (asAt t s.hops[0].asn).core = t.ases[s.hops[0].asn.toNat].core by rw [asAt_at hp1 hp2])
    cases bc : t.ases[s.hops[0].asn.toNat].core
    · have HE := Lib.hid (show segKind t s = 0 by unfold segKind; rw [HX0.out, HC.out, bc, bb]; rfl)
      try clear cf1
      try clear cf2
      have cf5 := blk2 HB0.out.1
      have cf6 := blk3 HB0.out.2
      go_wp2_with fail
      refine wp_region_ext (by kernel_rfl) (by kernel_rfl) ?_
      have q0 := ExtW.cell (cf5.1)
      have q1 := ExtW.cell (cf5.2)
      have q2 := ExtW.cell (cf6.1)
      have q3 := ExtW.cell (cf6.2.1)
      have q4 := ExtW.cell (cf6.2.2)
      have q5 := ExtW.cell (hc0.1)
      have q6 := ExtW.cell (hc0.2.1)
      have q7 := ExtW.cell (hc0.2.2.1)
      have q8 := ExtW.cell (hc0.2.2.2.1)
      have q9 := ExtW.cell (hc0.2.2.2.2)
      have q10 := ExtW.cell (hcA.1)
      have q11 := ExtW.cell (hcA.2.1)
      have q12 := ExtW.cell (hcA.2.2)
      repeat (first | go_big_quiet_step (((first | (go_at_call 127; exact Calls.ext_of (s_WellFormed t _ _ s _ _ ((ha.ext hx0).ext (ExtW.h _)) ((hk.ext hx0).ext (ExtW.h _)) ((r.ext hx0).ext (ExtW.h _)) hl)) | (go_at_call 128; exact Calls.ext_of (s_FirstAS s _ _ ((r.ext hx0).ext (ExtW.h _)) h0 _ rfl))))) | quiet_step (((first | (go_at_call 127; exact Calls.ext_of (s_WellFormed t _ _ s _ _ ((ha.ext hx0).ext (ExtW.h _)) ((hk.ext hx0).ext (ExtW.h _)) ((r.ext hx0).ext (ExtW.h _)) hl)) | (go_at_call 128; exact Calls.ext_of (s_FirstAS s _ _ ((r.ext hx0).ext (ExtW.h _)) h0 _ rfl))))))
      refine wpQuiet_nil ?_
      intro w2 hw2
      have hz2 := ExtW.out hw2
      clear hw2 q0 q1 q2 q3 q4 q5 q6 q7 q8 q9 q10 q11 q12
      go_wp2_with fail
      go_ret
      exact ⟨ret_int HE.out.symm, (hx0.trans hz2)⟩
    · have HE := Lib.hid (show segKind t s = kindGo t 0 (s.hops.drop 0) by unfold segKind; rw [HX0.out, HC.out, bc, bb]; rfl)
      try clear cf1
      try clear cf2
      have cf7 := blk2 HB0.out.1
      have cf8 := blk3 HB0.out.2
      go_wp2_with fail
      refine wp_region_ext (by kernel_rfl) (by kernel_rfl) ?_
      have q0 := ExtW.cell (cf7.1)
      have q1 := ExtW.cell (cf7.2)
      have q2 := ExtW.cell (cf8.1)
      have q3 := ExtW.cell (cf8.2.1)
      have q4 := ExtW.cell (cf8.2.2)
      have q5 := ExtW.cell (hc0.1)
      have q6 := ExtW.cell (hc0.2.1)
      have q7 := ExtW.cell (hc0.2.2.1)
      have q8 := ExtW.cell (hc0.2.2.2.1)
      have q9 := ExtW.cell (hc0.2.2.2.2)
      have q10 := ExtW.cell (hcA.1)
      have q11 := ExtW.cell (hcA.2.1)
      have q12 := ExtW.cell (hcA.2.2)
      repeat (first | go_big_quiet_step (((first | (go_at_call 127; exact Calls.ext_of (s_WellFormed t _ _ s _ _ ((ha.ext hx0).ext (ExtW.h _)) ((hk.ext hx0).ext (ExtW.h _)) ((r.ext hx0).ext (ExtW.h _)) hl)) | (go_at_call 128; exact Calls.ext_of (s_FirstAS s _ _ ((r.ext hx0).ext (ExtW.h _)) h0 _ rfl))))) | quiet_step (((first | (go_at_call 127; exact Calls.ext_of (s_WellFormed t _ _ s _ _ ((ha.ext hx0).ext (ExtW.h _)) ((hk.ext hx0).ext (ExtW.h _)) ((r.ext hx0).ext (ExtW.h _)) hl)) | (go_at_call 128; exact Calls.ext_of (s_FirstAS s _ _ ((r.ext hx0).ext (ExtW.h _)) h0 _ rfl))))))
      refine wpQuiet_nil ?_
      intro w3 hw3
      have hz3 := ExtW.out hw3
      clear hw3 q0 q1 q2 q3 q4 q5 q6 q7 q8 q9 q10 q11 q12
      try clear cf7
      try clear cf8
      have cf9 := blk2 (Ext.block hz3 HB0.out.1)
      have cf10 := blk3 (Ext.block hz3 HB0.out.2)
      go_wp2_with fail
      clear hc0 hcA bc bb hA
      go_loopg [5, 6] s.hops.length (fun gk kd i wr => ∃ (k : Nat) (n : Int), gk + k = s.hops.length ∧ kd = .int .i64 n ∧ i = .int .i64 k ∧ Hid (segKind t s = kindGo t n (s.hops.drop k)) ∧ Ext w3 wr)
      case atStart => exact ⟨0, 0, by omega, rfl, rfl, HE, Ext.refl _⟩
      case round =>
        obtain ⟨k, n, hgk, rfl, rfl, HK, hx⟩ := hrel
        have HGK := Lib.hid hgk
        clear hgk
        have hkl : k ≤ s.hops.length := by have h1 := HGK.out; omega
        by_cases hlt : k < s.hops.length
        · obtain ⟨b', off', hbo, hc⟩ := Hop.at (r.ext ((hx0.trans hz3).trans hx)) k hlt
          cases hbo
          have h4 : (k : Int) < (s.hops.length : Int) := by omega
          cases b5 : (s.hops[k].eg == 0)
          · try clear cf9
            try clear cf10
            have cf11 := blk2 (Ext.block (hz3.trans hx) HB0.out.1)
            have cf12 := blk3 (Ext.block (hz3.trans hx) HB0.out.2)
            go_upto_region 8 with (fail)
            go_wp2_with fail
            refine wp_region_ext (by kernel_rfl) (by kernel_rfl) ?_
            have q0 := ExtW.cell (cf11.1)
            have q1 := ExtW.cell (cf11.2)
            have q2 := ExtW.cell (cf12.1)
            have q3 := ExtW.cell (cf12.2.1)
            have q4 := ExtW.cell (cf12.2.2)
            have q5 := ExtW.cell (hc.1)
            have q6 := ExtW.cell (hc.2.1)
            have q7 := ExtW.cell (hc.2.2.1)
            have q8 := ExtW.cell (hc.2.2.2.1)
            have q9 := ExtW.cell (hc.2.2.2.2)
            repeat (first | go_big_quiet_step (((first | (go_at_call 129; exact Calls.ext_of (s_InterfaceKind t _ _ s.hops[k].asn s.hops[k].eg _ ((hk.ext ((hx0.trans hz3).trans hx)).ext (ExtW.h _))))))) | quiet_step (((first | (go_at_call 129; exact Calls.ext_of (s_InterfaceKind t _ _ s.hops[k].asn s.hops[k].eg _ ((hk.ext ((hx0.trans hz3).trans hx)).ext (ExtW.h _))))))))
            refine wpQuiet_nil ?_
            intro w4 hw4
            have hz4 := ExtW.out hw4
            clear hw4 q0 q1 q2 q3 q4 q5 q6 q7 q8 q9
            generalize hik : ifKind t s.hops[k].asn s.hops[k].eg = ik
            have HIK := Lib.hid hik
            clear hik
            cases k0 : (n == 0)
            · have k0' : (n != 0) = true := by simp only [bne, k0]; rfl
              cases k1 : (ik == n)
              · have k1' : (ik != n) = true := by simp only [bne, k1]; rfl
                have HE2 := Lib.hid (HK.out.trans (kind_bad hlt b5 k0 (by rw [HIK.out]; exact k1)))
                try clear cf11
                try clear cf12
                have cf13 := blk2 (Ext.block ((hz3.trans hx).trans hz4) HB0.out.1)
                have cf14 := blk3 (Ext.block ((hz3.trans hx).trans hz4) HB0.out.2)
                have cf15 := Hop.at_ext hz4 hc
                go_wp2_with fail
                go_ret
                exact ⟨ret_int HE2.out.symm, (((hx0.trans hz3).trans hx).trans hz4)⟩
              · have k1' : (ik != n) = false := by simp only [bne, k1]; rfl
                have HE2 := Lib.hid (HK.out.trans (kind_go hlt b5 (.inr (by rw [HIK.out]; exact k1))))
                rw [HIK.out] at HE2
                try clear cf11
                try clear cf12
                have cf16 := blk2 (Ext.block ((hz3.trans hx).trans hz4) HB0.out.1)
                have cf17 := blk3 (Ext.block ((hz3.trans hx).trans hz4) HB0.out.2)
                have cf18 := Hop.at_ext hz4 hc
                go_wp2_with fail
                go_roundg (gk - 1)
                case measure => have h1 := HGK.out; omega
                case rel => exact ⟨k + 1, _, by have h1 := HGK.out; omega, rfl, congrArg (Value.int .i64) (by first | omega | (unfold wrap64; omega)), HE2, (hx.trans hz4)⟩
            · have k0' : (n != 0) = false := by simp only [bne, k0]; rfl
              have HE2 := Lib.hid (HK.out.trans (kind_go hlt b5 (.inl k0)))
              rw [HIK.out] at HE2
              try clear cf11
              try clear cf12
              have cf19 := blk2 (Ext.block ((hz3.trans hx).trans hz4) HB0.out.1)
              have cf20 := blk3 (Ext.block ((hz3.trans hx).trans hz4) HB0.out.2)
              have cf21 := Hop.at_ext hz4 hc
              go_wp2_with fail
              go_roundg (gk - 1)
              case measure => have h1 := HGK.out; omega
              case rel => exact ⟨k + 1, _, by have h1 := HGK.out; omega, rfl, congrArg (Value.int .i64) (by first | omega | (unfold wrap64; omega)), HE2, (hx.trans hz4)⟩
          · have HE2 := Lib.hid (HK.out.trans (kind_skip (t := t) hlt b5))
            try clear cf9
            try clear cf10
            have cf22 := blk2 (Ext.block (hz3.trans hx) HB0.out.1)
            have cf23 := blk3 (Ext.block (hz3.trans hx) HB0.out.2)
            go_wp2_with fail
            go_roundg (gk - 1)
            case measure => have h1 := HGK.out; omega
            case rel => exact ⟨k + 1, _, by have h1 := HGK.out; omega, rfl, congrArg (Value.int .i64) (by first | omega | (unfold wrap64; omega)), HE2, hx⟩
        · obtain rfl : k = s.hops.length := by omega
          have HE2 : Hid (segKind t s = if n == 1 then 1 else if n == 2 then 2 else 0) := Lib.hid (by rw [HK.out, List.drop_length]; rfl)
          cases k1 : (n == 1)
          · cases k2 : (n == 2)
            · try clear cf9
              try clear cf10
              have cf24 := blk2 (Ext.block (hz3.trans hx) HB0.out.1)
              have cf25 := blk3 (Ext.block (hz3.trans hx) HB0.out.2)
              go_wp2_with fail
              go_ret
              exact ⟨ret_int (by rw [HE2.out, k1, k2]; rfl), ((hx0.trans hz3).trans hx)⟩
            · try clear cf9
              try clear cf10
              have cf26 := blk2 (Ext.block (hz3.trans hx) HB0.out.1)
              have cf27 := blk3 (Ext.block (hz3.trans hx) HB0.out.2)
              go_wp2_with fail
              go_ret
              exact ⟨ret_int (by rw [HE2.out, k1, k2]; rfl), ((hx0.trans hz3).trans hx)⟩
          · try clear cf9
            try clear cf10
            have cf28 := blk2 (Ext.block (hz3.trans hx) HB0.out.1)
            have cf29 := blk3 (Ext.block (hz3.trans hx) HB0.out.2)
            go_wp2_with fail
            go_ret
            exact ⟨ret_int (by rw [HE2.out, k1]; rfl), ((hx0.trans hz3).trans hx)⟩


set_option maxRecDepth 100000 in
set_option maxHeartbeats 4000000 in
theorem i_ValidSegment (t : Topo) (v1 v2 : Value) (s : Seg) (v : Value)  (w : World) (ha : RdS ASd.rep w v1 t.ases) (hk : RdS Lnk.rep w v2 t.links) (r : RdS Hop.rep w v s.hops) (hl : s.hops.length ≤ 1048576) :
    Calls Try.prog 51 #[.agg #[v1, v2], .agg #[.int .i64 s.ts, .int .i64 s.beta, v]] w fun e w' => e = .returned (.bool (validSeg t s)) ∧ Ext w w' := by
  obtain ⟨o, cap, rfl, hsm⟩ := r.shape
  have hx0 := ext2 w (.cells #[v1, v2] 59) (.cells #[.int .i64 s.ts, .int .i64 s.beta, .slice o s.hops.length cap] 62)
  have HB0 := Lib.hid (al2 w (.cells #[v1, v2] 59) (.cells #[.int .i64 s.ts, .int .i64 s.beta, .slice o s.hops.length cap] 62))
  go_enter Try.func51, Try.ntmps51
  obtain ⟨W0, hW0⟩ : ∃ W0 : World, W0 = ((w.alloc (.cells #[v1, v2] 59)).alloc (.cells #[.int .i64 s.ts, .int .i64 s.beta, .slice o s.hops.length cap] 62)) := ⟨_, rfl⟩
  rw [← hW0] at hx0 HB0
  have cf1 := blk2 HB0.out.1
  have cf2 := blk3 HB0.out.2
  go_wp2_with fail
  rw [← hW0]
  clear hW0
  refine (i_WellFormed t _ _ s _ _ (ha.ext hx0) (hk.ext hx0) (r.ext hx0) hl).mono ?_
  rintro e w1 ⟨rfl, hz1⟩
  cases b1 : wfSeg t s
  · have HE := Lib.hid (show validSeg t s = false by simp [validSeg, b1])
    try clear cf1
    try clear cf2
    have cf3 := blk2 (Ext.block hz1 HB0.out.1)
    have cf4 := blk3 (Ext.block hz1 HB0.out.2)
    go_wp2_with fail
    go_ret
    exact ⟨ret_bool HE.out.symm, (hx0.trans hz1)⟩
  · try clear cf1
    try clear cf2
    have cf5 := blk2 (Ext.block hz1 HB0.out.1)
    have cf6 := blk3 (Ext.block hz1 HB0.out.2)
    go_wp2_with fail
    refine (i_FirstInvalidHop t _ _ s _ _ (ha.ext (hx0.trans hz1)) (r.ext (hx0.trans hz1)) hl).mono ?_
    rintro e w2 ⟨rfl, hz2⟩
    cases b2 : decide (firstBad t s < 0)
    · have HE := Lib.hid (show validSeg t s = false by simp [validSeg, b2])
      try clear cf5
      try clear cf6
      have cf7 := blk2 (Ext.block (hz1.trans hz2) HB0.out.1)
      have cf8 := blk3 (Ext.block (hz1.trans hz2) HB0.out.2)
      go_wp2_with fail
      go_ret
      exact ⟨ret_bool HE.out.symm, ((hx0.trans hz1).trans hz2)⟩
    · try clear cf5
      try clear cf6
      have cf9 := blk2 (Ext.block (hz1.trans hz2) HB0.out.1)
      have cf10 := blk3 (Ext.block (hz1.trans hz2) HB0.out.2)
      go_wp2_with fail
      refine (i_SegmentKind t _ _ s _ _ (ha.ext ((hx0.trans hz1).trans hz2)) (hk.ext ((hx0.trans hz1).trans hz2)) (r.ext ((hx0.trans hz1).trans hz2)) hl).mono ?_
      rintro e w3 ⟨rfl, hz3⟩
      cases b3 : (segKind t s == 0)
      · have b3' : (segKind t s != 0) = true := by simp only [bne, b3]; rfl
        try clear cf9
        try clear cf10
        have cf11 := blk2 (Ext.block ((hz1.trans hz2).trans hz3) HB0.out.1)
        have cf12 := blk3 (Ext.block ((hz1.trans hz2).trans hz3) HB0.out.2)
        go_wp2_with fail
        refine (i_InRange _ _ _ _).mono ?_
        rintro e _ ⟨rfl, rfl⟩
        cases b4 : inR s.ts 0 1000000
        · have HE := Lib.hid (show validSeg t s = false by simp [validSeg, b4])
          go_wp2_with fail
          go_ret
          exact ⟨ret_bool HE.out.symm, (((hx0.trans hz1).trans hz2).trans hz3)⟩
        · go_wp2_with fail
          refine (i_isResidue _ _).mono ?_
          rintro e _ ⟨rfl, rfl⟩
          have HE := Lib.hid (show validSeg t s = isRes s.beta by unfold validSeg; rw [b1, b2, b3', b4]; rfl)
          go_wp2_with fail
          go_ret
          exact ⟨ret_bool HE.out.symm, (((hx0.trans hz1).trans hz2).trans hz3)⟩
      · have b3' : (segKind t s != 0) = false := by simp only [bne, b3]; rfl
        have HE := Lib.hid (show validSeg t s = false by simp [validSeg, b3'])
        try clear cf9
        try clear cf10
        have cf13 := blk2 (Ext.block ((hz1.trans hz2).trans hz3) HB0.out.1)
        have cf14 := blk3 (Ext.block ((hz1.trans hz2).trans hz3) HB0.out.2)
        go_wp2_with fail
        go_ret
        exact ⟨ret_bool HE.out.symm, (((hx0.trans hz1).trans hz2).trans hz3)⟩

set_option maxRecDepth 100000 in
set_option maxHeartbeats 4000000 in
theorem s_ValidSegment (t : Topo) (v1 v2 : Value) (s : Seg) (v : Value)  (w : World) (ha : RdS ASd.rep w v1 t.ases) (hk : RdS Lnk.rep w v2 t.links) (r : RdS Hop.rep w v s.hops) (hl : s.hops.length ≤ 1048576) :
    Calls Try.prog 52 #[.agg #[v1, v2], .agg #[.int .i64 s.ts, .int .i64 s.beta, v]] w fun e w' => e = .returned (.bool (validSeg t s)) ∧ Ext w w' := by
  obtain ⟨o, cap, rfl, hsm⟩ := r.shape
  have hx0 := ext2 w (.cells #[v1, v2] 59) (.cells #[.int .i64 s.ts, .int .i64 s.beta, .slice o s.hops.length cap] 62)
  have HB0 := Lib.hid (al2 w (.cells #[v1, v2] 59) (.cells #[.int .i64 s.ts, .int .i64 s.beta, .slice o s.hops.length cap] 62))
  go_enter Try.func52, Try.ntmps52
  obtain ⟨W0, hW0⟩ : ∃ W0 : World, W0 = ((w.alloc (.cells #[v1, v2] 59)).alloc (.cells #[.int .i64 s.ts, .int .i64 s.beta, .slice o s.hops.length cap] 62)) := ⟨_, rfl⟩
  rw [← hW0] at hx0 HB0
  have cf1 := blk2 HB0.out.1
  have cf2 := blk3 HB0.out.2
  go_wp2_with fail
  rw [← hW0]
  clear hW0
  refine (s_WellFormed t _ _ s _ _ (ha.ext hx0) (hk.ext hx0) (r.ext hx0) hl).mono ?_
  rintro e w1 ⟨rfl, hz1⟩
  cases b1 : wfSeg t s
  · have HE := Lib.hid (show validSeg t s = false by simp [validSeg, b1])
    try clear cf1
    try clear cf2
    have cf3 := blk2 (Ext.block hz1 HB0.out.1)
    have cf4 := blk3 (Ext.block hz1 HB0.out.2)
    go_wp2_with fail
    go_ret
    exact ⟨ret_bool HE.out.symm, (hx0.trans hz1)⟩
  · try clear cf1
    try clear cf2
    have cf5 := blk2 (Ext.block hz1 HB0.out.1)
    have cf6 := blk3 (Ext.block hz1 HB0.out.2)
    go_wp2_with fail
    refine (s_FirstInvalidHop t _ _ s _ _ (ha.ext (hx0.trans hz1)) (r.ext (hx0.trans hz1)) hl).mono ?_
    rintro e w2 ⟨rfl, hz2⟩
    cases b2 : decide (firstBad t s < 0)
    · have HE := Lib.hid (show validSeg t s = false by simp [validSeg, b2])
      try clear cf5
      try clear cf6
      have cf7 := blk2 (Ext.block (hz1.trans hz2) HB0.out.1)
      have cf8 := blk3 (Ext.block (hz1.trans hz2) HB0.out.2)
      go_wp2_with fail
      go_ret
      exact ⟨ret_bool HE.out.symm, ((hx0.trans hz1).trans hz2)⟩
    · try clear cf5
      try clear cf6
      have cf9 := blk2 (Ext.block (hz1.trans hz2) HB0.out.1)
      have cf10 := blk3 (Ext.block (hz1.trans hz2) HB0.out.2)
      go_wp2_with fail
      refine (s_SegmentKind t _ _ s _ _ (ha.ext ((hx0.trans hz1).trans hz2)) (hk.ext ((hx0.trans hz1).trans hz2)) (r.ext ((hx0.trans hz1).trans hz2)) hl).mono ?_
      rintro e w3 ⟨rfl, hz3⟩
      cases b3 : (segKind t s == 0)
      · have b3' : (segKind t s != 0) = true := by simp only [bne, b3]; rfl
        try clear cf9
        try clear cf10
        have cf11 := blk2 (Ext.block ((hz1.trans hz2).trans hz3) HB0.out.1)
        have cf12 := blk3 (Ext.block ((hz1.trans hz2).trans hz3) HB0.out.2)
        go_wp2_with fail
        refine (s_l1In _ _ _ _).mono ?_
        rintro e _ ⟨rfl, rfl⟩
        cases b4 : inR s.ts 0 1000000
        · have HE := Lib.hid (show validSeg t s = false by simp [validSeg, b4])
          go_wp2_with fail
          go_ret
          exact ⟨ret_bool HE.out.symm, (((hx0.trans hz1).trans hz2).trans hz3)⟩
        · go_wp2_with fail
          refine (s_l3Ok _ _).mono ?_
          rintro e _ ⟨rfl, rfl⟩
          have HE := Lib.hid (show validSeg t s = isRes s.beta by unfold validSeg; rw [b1, b2, b3', b4]; rfl)
          go_wp2_with fail
          go_ret
          exact ⟨ret_bool HE.out.symm, (((hx0.trans hz1).trans hz2).trans hz3)⟩
      · have b3' : (segKind t s != 0) = false := by simp only [bne, b3]; rfl
        have HE := Lib.hid (show validSeg t s = false by simp [validSeg, b3'])
        try clear cf9
        try clear cf10
        have cf13 := blk2 (Ext.block ((hz1.trans hz2).trans hz3) HB0.out.1)
        have cf14 := blk3 (Ext.block ((hz1.trans hz2).trans hz3) HB0.out.2)
        go_wp2_with fail
        go_ret
        exact ⟨ret_bool HE.out.symm, (((hx0.trans hz1).trans hz2).trans hz3)⟩

set_option maxHeartbeats 400000 in
theorem s_Min (a b : Int) (w : World) :
    Calls Try.prog 181 #[.int .i64 a, .int .i64 b] w fun e w' => e = .returned (.int .i64 (if b < a then b else a)) ∧ w = w' := by
  go_enter Try.func181, Try.ntmps181
  by_cases h : b < a
  · go_wp2_with fail
    go_ret
    exact ⟨ret_int (by first | rfl | simp [*]), rfl⟩
  · go_wp2_with fail
    go_ret
    exact ⟨ret_int (by first | rfl | simp [*]), rfl⟩

set_option maxRecDepth 100000 in
set_option maxHeartbeats 2000000 in
theorem s_SegmentExpiry (s : Seg) (v : Value) (w : World) (r : RdS Hop.rep w v s.hops) (hl : s.hops.length ≤ 1048576) :
    Calls Try.prog 121 #[.agg #[.int .i64 s.ts, .int .i64 s.beta, v]] w fun e w' => e = .returned (.int .i64 (leastExp s.hops)) ∧ Ext w w' := by
  obtain ⟨o, cap, rfl, hsm⟩ := r.shape
  have hx0 : Ext w (w.alloc (.cells #[.int .i64 s.ts, .int .i64 s.beta, .slice o s.hops.length cap] 62)) := (Ext.refl _).alloc _
  have HB0 := Lib.hid (blk_new w (.cells #[.int .i64 s.ts, .int .i64 s.beta, .slice o s.hops.length cap] 62))
  go_enter Try.func121, Try.ntmps121
  have hl0 : s.hops.length = 0 ∨ 0 < s.hops.length := by omega
  rcases hl0 with hl0 | hl0
  · obtain ⟨ts, beta, hops⟩ := s
    obtain rfl : hops = [] := List.eq_nil_of_length_eq_zero hl0
    clear hl0
    have cf1 := blk3 HB0.out
    go_wp2_with fail
    go_ret
    exact ⟨rfl, hx0⟩
  · obtain ⟨b, off, rfl, hc⟩ := Hop.at (r.ext hx0) 0 hl0
    simp only [Nat.zero_mul, Nat.add_zero] at hc
    have h1 : ((s.hops.length : Int) == 0) = false := by simp; exact List.ne_nil_of_length_pos hl0
    have h2 : (0 : Int) < (s.hops.length : Int) := by omega
    have HL1 := Lib.hid (least_one hl0)
    have cf2 := blk3 HB0.out
    go_wp2_with fail
    generalize w.alloc (.cells #[.int .i64 s.ts, .int .i64 s.beta, .slice (some ⟨b, off, none⟩) s.hops.length cap] 62) = W0 at hx0 HB0 ⊢
    clear hc h1 h2 cf2
    go_loopg [3, 4] (s.hops.length - 1) (fun gk n i wr => ∃ k : Nat, gk + k = s.hops.length ∧ n = .int .i64 (leastExp (s.hops.take k)) ∧ i = .int .i64 k ∧ 1 ≤ k ∧ Ext W0 wr)
    case atStart => exact ⟨1, by omega, by rw [HL1.out], rfl, Nat.le_refl _, Ext.refl _⟩
    case round =>
      obtain ⟨k, hgk, rfl, rfl, hk1, hx⟩ := hrel
      have HGK := Lib.hid hgk
      clear hgk
      have hkl : k ≤ s.hops.length := by have h1 := HGK.out; omega
      obtain ⟨m, hm⟩ : ∃ m, m = leastExp (s.hops.take k) := ⟨_, rfl⟩
      rw [← hm]
      have HM := Lib.hid hm
      clear hm
      by_cases hlt : k < s.hops.length
      · obtain ⟨b', off', hbo, hc⟩ := Hop.at (r.ext (hx0.trans hx)) k hlt
        cases hbo
        have h4 : (k : Int) < (s.hops.length : Int) := by omega
        have HN := Lib.hid (least_next hk1 hlt)
        by_cases hcm : s.hops[k].exp < m
        · have HV := Lib.hid (show leastExp (s.hops.take (k + 1)) = s.hops[k].exp by rw [HN.out, ← HM.out, if_pos hcm])
          try clear cf2
          have cf3 := blk3 (Ext.block hx HB0.out)
          go_wp2_with fail
          refine (s_Min _ _ _).mono ?_
          rintro e _ ⟨rfl, rfl⟩
          go_wp2_with fail
          go_roundg (gk - 1)
          case measure => have h1 := HGK.out; omega
          case rel => exact ⟨k + 1, by have h1 := HGK.out; omega, by rw [HV.out], congrArg (Value.int .i64) (by first | omega | (unfold wrap64; omega)), by omega, hx⟩
        · have HV := Lib.hid (show leastExp (s.hops.take (k + 1)) = m by rw [HN.out, ← HM.out, if_neg hcm])
          try clear cf2
          have cf4 := blk3 (Ext.block hx HB0.out)
          go_wp2_with fail
          refine (s_Min _ _ _).mono ?_
          rintro e _ ⟨rfl, rfl⟩
          go_wp2_with fail
          go_roundg (gk - 1)
          case measure => have h1 := HGK.out; omega
          case rel => exact ⟨k + 1, by have h1 := HGK.out; omega, by rw [HV.out], congrArg (Value.int .i64) (by first | omega | (unfold wrap64; omega)), by omega, hx⟩
      · have HE := Lib.hid (show m = leastExp s.hops by rw [HM.out, List.take_of_length_le (by omega)])
        try clear cf2
        have cf5 := blk3 (Ext.block hx HB0.out)
        go_wp2_with fail
        go_ret
        exact ⟨ret_int HE.out, (hx0.trans hx)⟩

set_option maxRecDepth 100000 in
set_option maxHeartbeats 4000000 in
theorem i_SegmentUsable (t : Topo) (v1 v2 : Value) (s : Seg) (v : Value) (now : Int) (w : World) (ha : RdS ASd.rep w v1 t.ases) (hk : RdS Lnk.rep w v2 t.links) (r : RdS Hop.rep w v s.hops) (hl : s.hops.length ≤ 1048576) :
    Calls Try.prog 53 #[.agg #[v1, v2], .agg #[.int .i64 s.ts, .int .i64 s.beta, v], .int .i64 now] w fun e w' => e = .returned (.bool (segUsable t s now)) ∧ Ext w w' := by
  obtain ⟨o, cap, rfl, hsm⟩ := r.shape
  have hx0 := ext2 w (.cells #[v1, v2] 59) (.cells #[.int .i64 s.ts, .int .i64 s.beta, .slice o s.hops.length cap] 62)
  have HB0 := Lib.hid (al2 w (.cells #[v1, v2] 59) (.cells #[.int .i64 s.ts, .int .i64 s.beta, .slice o s.hops.length cap] 62))
  go_enter Try.func53, Try.ntmps53
  obtain ⟨W0, hW0⟩ : ∃ W0 : World, W0 = ((w.alloc (.cells #[v1, v2] 59)).alloc (.cells #[.int .i64 s.ts, .int .i64 s.beta, .slice o s.hops.length cap] 62)) := ⟨_, rfl⟩
  rw [← hW0] at hx0 HB0
  have cf1 := blk2 HB0.out.1
  have cf2 := blk3 HB0.out.2
  go_wp2_with fail
  rw [← hW0]
  clear hW0
  refine (i_ValidSegment t _ _ s _ _ (ha.ext hx0) (hk.ext hx0) (r.ext hx0) hl).mono ?_
  rintro e w1 ⟨rfl, hz1⟩
  cases b1 : validSeg t s
  · have HE := Lib.hid (show segUsable t s now = false by simp [segUsable, b1])
    try clear cf1
    try clear cf2
    have cf3 := blk2 (Ext.block hz1 HB0.out.1)
    have cf4 := blk3 (Ext.block hz1 HB0.out.2)
    go_wp2_with fail
    go_ret
    exact ⟨ret_bool HE.out.symm, (hx0.trans hz1)⟩
  · try clear cf1
    try clear cf2
    have cf5 := blk2 (Ext.block hz1 HB0.out.1)
    have cf6 := blk3 (Ext.block hz1 HB0.out.2)
    go_wp2_with fail
    refine (i_IsTerminated s _ _ (r.ext (hx0.trans hz1))).mono ?_
    rintro e w2 ⟨rfl, hz2⟩
    cases b2 : isTerm s
    · have HE := Lib.hid (show segUsable t s now = false by simp [segUsable, b2])
      try clear cf5
      try clear cf6
      have cf7 := blk2 (Ext.block (hz1.trans hz2) HB0.out.1)
      have cf8 := blk3 (Ext.block (hz1.trans hz2) HB0.out.2)
      go_wp2_with fail
      go_ret
      exact ⟨ret_bool HE.out.symm, ((hx0.trans hz1).trans hz2)⟩
    · by_cases b3 : s.ts ≤ now
      · try clear cf5
        try clear cf6
        have cf9 := blk2 (Ext.block (hz1.trans hz2) HB0.out.1)
        have cf10 := blk3 (Ext.block (hz1.trans hz2) HB0.out.2)
        go_wp2_with fail
        refine (i_SegmentExpiry s _ _ (r.ext ((hx0.trans hz1).trans hz2))).mono ?_
        rintro e w3 ⟨rfl, hz3⟩
        have HE := Lib.hid (show segUsable t s now = decide (now ≤ leastExp s.hops) by unfold segUsable; rw [b1, b2, decide_eq_true b3]; rfl)
        try clear cf9
        try clear cf10
        have cf11 := blk2 (Ext.block ((hz1.trans hz2).trans hz3) HB0.out.1)
        have cf12 := blk3 (Ext.block ((hz1.trans hz2).trans hz3) HB0.out.2)
        go_wp2_with fail
        go_ret
        exact ⟨ret_bool HE.out.symm, (((hx0.trans hz1).trans hz2).trans hz3)⟩
      · have b3d : decide (s.ts ≤ now) = false := decide_eq_false b3
        have HE := Lib.hid (show segUsable t s now = false by simp [segUsable, b3])
        try clear cf5
        try clear cf6
        have cf13 := blk2 (Ext.block (hz1.trans hz2) HB0.out.1)
        have cf14 := blk3 (Ext.block (hz1.trans hz2) HB0.out.2)
        go_wp2_with fail
        go_ret
        exact ⟨ret_bool HE.out.symm, ((hx0.trans hz1).trans hz2)⟩

set_option maxRecDepth 100000 in
set_option maxHeartbeats 4000000 in
theorem s_SegmentUsable (t : Topo) (v1 v2 : Value) (s : Seg) (v : Value) (now : Int) (w : World) (ha : RdS ASd.rep w v1 t.ases) (hk : RdS Lnk.rep w v2 t.links) (r : RdS Hop.rep w v s.hops) (hl : s.hops.length ≤ 1048576) :
    Calls Try.prog 54 #[.agg #[v1, v2], .agg #[.int .i64 s.ts, .int .i64 s.beta, v], .int .i64 now] w fun e w' => e = .returned (.bool (segUsable t s now)) ∧ Ext w w' := by
  obtain ⟨o, cap, rfl, hsm⟩ := r.shape
  have hx0 := ext2 w (.cells #[v1, v2] 59) (.cells #[.int .i64 s.ts, .int .i64 s.beta, .slice o s.hops.length cap] 62)
  have HB0 := Lib.hid (al2 w (.cells #[v1, v2] 59) (.cells #[.int .i64 s.ts, .int .i64 s.beta, .slice o s.hops.length cap] 62))
  go_enter Try.func54, Try.ntmps54
  obtain ⟨W0, hW0⟩ : ∃ W0 : World, W0 = ((w.alloc (.cells #[v1, v2] 59)).alloc (.cells #[.int .i64 s.ts, .int .i64 s.beta, .slice o s.hops.length cap] 62)) := ⟨_, rfl⟩
  rw [← hW0] at hx0 HB0
  have cf1 := blk2 HB0.out.1
  have cf2 := blk3 HB0.out.2
  go_wp2_with fail
  rw [← hW0]
  clear hW0
  refine (s_ValidSegment t _ _ s _ _ (ha.ext hx0) (hk.ext hx0) (r.ext hx0) hl).mono ?_
  rintro e w1 ⟨rfl, hz1⟩
  cases b1 : validSeg t s
  · have HE := Lib.hid (show segUsable t s now = false by simp [segUsable, b1])
    try clear cf1
    try clear cf2
    have cf3 := blk2 (Ext.block hz1 HB0.out.1)
    have cf4 := blk3 (Ext.block hz1 HB0.out.2)
    go_wp2_with fail
    go_ret
    exact ⟨ret_bool HE.out.symm, (hx0.trans hz1)⟩
  · try clear cf1
    try clear cf2
    have cf5 := blk2 (Ext.block hz1 HB0.out.1)
    have cf6 := blk3 (Ext.block hz1 HB0.out.2)
    go_wp2_with fail
    refine (s_IsTerminated s _ _ (r.ext (hx0.trans hz1))).mono ?_
    rintro e w2 ⟨rfl, hz2⟩
    cases b2 : isTerm s
    · have HE := Lib.hid (show segUsable t s now = false by simp [segUsable, b2])
      try clear cf5
      try clear cf6
      have cf7 := blk2 (Ext.block (hz1.trans hz2) HB0.out.1)
      have cf8 := blk3 (Ext.block (hz1.trans hz2) HB0.out.2)
      go_wp2_with fail
      go_ret
      exact ⟨ret_bool HE.out.symm, ((hx0.trans hz1).trans hz2)⟩
    · by_cases b3 : s.ts ≤ now
      · try clear cf5
        try clear cf6
        have cf9 := blk2 (Ext.block (hz1.trans hz2) HB0.out.1)
        have cf10 := blk3 (Ext.block (hz1.trans hz2) HB0.out.2)
        go_wp2_with fail
        refine (s_SegmentExpiry s _ _ (r.ext ((hx0.trans hz1).trans hz2)) hl).mono ?_
        rintro e w3 ⟨rfl, hz3⟩
        have HE := Lib.hid (show segUsable t s now = decide (now ≤ leastExp s.hops) by unfold segUsable; rw [b1, b2, decide_eq_true b3]; rfl)
        try clear cf9
        try clear cf10
        have cf11 := blk2 (Ext.block ((hz1.trans hz2).trans hz3) HB0.out.1)
        have cf12 := blk3 (Ext.block ((hz1.trans hz2).trans hz3) HB0.out.2)
        go_wp2_with fail
        go_ret
        exact ⟨ret_bool HE.out.symm, (((hx0.trans hz1).trans hz2).trans hz3)⟩
      · have b3d : decide (s.ts ≤ now) = false := decide_eq_false b3
        have HE := Lib.hid (show segUsable t s now = false by simp [segUsable, b3])
        try clear cf5
        try clear cf6
        have cf13 := blk2 (Ext.block (hz1.trans hz2) HB0.out.1)
        have cf14 := blk3 (Ext.block (hz1.trans hz2) HB0.out.2)
        go_wp2_with fail
        go_ret
        exact ⟨ret_bool HE.out.symm, ((hx0.trans hz1).trans hz2)⟩

theorem strip_set {l xs : List Hop} {k : Nat} (h : xs.take k = (strip l).take k) (h2 : xs.drop k = l.drop k) (hk : k < l.length) (hx : xs.length = l.length) : (xs.set k { xs[k]'(by omega) with mac := 0 }).take (k + 1) = (strip l).take (k + 1) ∧ (xs.set k { xs[k]'(by omega) with mac := 0 }).drop (k + 1) = l.drop (k + 1) := by
  have hxk : xs[k]'(by omega) = l[k] := by
    have := congrArg List.head? h2
    rw [List.head?_drop, List.head?_drop, List.getElem?_eq_getElem (by omega), List.getElem?_eq_getElem hk] at this
    exact Option.some.inj this
  have hsl : (strip l).length = l.length := by simp [strip]
  constructor
  · rw [List.take_succ_eq_append_getElem (by simp; omega), List.take_succ_eq_append_getElem (by omega), List.take_set_of_le (Nat.le_refl _), h]
    simp [strip, hxk]
  · rw [List.drop_set_of_lt (by omega)]
    have h3 := congrArg (List.drop 1) h2
    simpa [List.drop_drop, Nat.add_comm] using h3

set_option maxRecDepth 100000 in
set_option maxHeartbeats 2000000 in
theorem i_StripMACs (s : Seg) (v : Value) (w : World) (r : RdS Hop.rep w v s.hops) (hl : s.hops.length ≤ 1048576) :
    Calls Try.prog 58 #[.agg #[.int .i64 s.ts, .int .i64 s.beta, v]] w fun e w' => ∃ v', e = .returned v' ∧ OwnF Hop.f 5 w.heap.size 73 w' v' (strip s.hops) ∧ Ext w w' := by
  obtain ⟨o, cap, rfl, hsm⟩ := r.shape
  have hx0 : Ext w (w.alloc (.cells #[.int .i64 s.ts, .int .i64 s.beta, .slice o s.hops.length cap] 62)) := (Ext.refl _).alloc _
  have HB0 := Lib.hid (blk_new w (.cells #[.int .i64 s.ts, .int .i64 s.beta, .slice o s.hops.length cap] 62))
  go_enter Try.func58, Try.ntmps58
  have cf1 := blk3 HB0.out
  go_wp2_with fail
  refine (i_copyHops s.hops _ _ (r.ext hx0) hl).mono ?_
  rintro e w1 ⟨vh, rfl, RH, hz1⟩
  replace RH := RH.mono (base' := w.heap.size) (by simp)
  obtain ⟨oh, ch, rfl, _⟩ := (OwnF.rd (hf := Hop.flen) RH).shape
  try clear cf1
  have cf2 := blk3 (Ext.block hz1 HB0.out)
  go_wp2_with fail
  go_loopg [10] s.hops.length (fun gk i wr => ∃ (k : Nat) (xs : List Hop), gk + k = s.hops.length ∧ i = .int .i64 k ∧ xs.length = s.hops.length ∧ Hid (xs.take k = (strip s.hops).take k ∧ xs.drop k = s.hops.drop k) ∧ OwnF Hop.f 5 w.heap.size 73 wr (.slice oh s.hops.length ch) xs ∧ Ext w wr)
  case atStart => exact ⟨0, s.hops, by omega, rfl, rfl, Lib.hid ⟨rfl, rfl⟩, RH, (hx0.trans hz1)⟩
  case round =>
    clear RH
    obtain ⟨k, xs, hgk, rfl, hxl, HS, RH, hx⟩ := hrel
    have HGK := Lib.hid hgk
    have HXL := Lib.hid hxl
    clear hgk hxl
    have hkl : k ≤ s.hops.length := by have h1 := HGK.out; omega
    by_cases hlt : k < s.hops.length
    · have hkx : k < xs.length := by rw [HXL.out]; exact hlt
      obtain ⟨gh, ch2, hsh, _, _⟩ := RH.some_shape (by omega)
      rw [HXL.out] at hsh
      cases hsh
      have h4 : (k : Int) < (s.hops.length : Int) := by omega
      have hcs := Hop.own_at RH k hkx
      have ff := RH.free (k * 5 + 4)
      obtain ⟨hput, hgp⟩ := OwnF.put1 Hop.flen RH k hkx 4 (by decide) (.int .i64 0) { xs[k] with mac := 0 } rfl
      have hxs := hx.grown hgp (fun q hq => by cases hq; exact (RH.block gh rfl).1)
      have HS2 := Lib.hid (strip_set HS.out.1 HS.out.2 hlt HXL.out)
      clear hgp
      go_wp2_with fail
      go_roundg (gk - 1)
      case measure => have h1 := HGK.out; omega
      case rel => exact ⟨k + 1, _, by have h1 := HGK.out; omega, congrArg (Value.int .i64) (by first | omega | (unfold wrap64; omega)), by simpa using HXL.out, HS2, hput, hxs⟩
    · obtain rfl : k = s.hops.length := by omega
      have hfin : xs = strip s.hops := by
        have h1 := HS.out.1
        rwa [List.take_of_length_le (by rw [HXL.out]; omega), List.take_of_length_le (by simp [strip])] at h1
      subst hfin
      go_wp2_with fail
      go_ret
      exact ⟨_, rfl, RH, hx⟩

set_option maxRecDepth 100000 in
set_option maxHeartbeats 2000000 in
theorem s_StripMACs (s : Seg) (v : Value) (w : World) (r : RdS Hop.rep w v s.hops) (hl : s.hops.length ≤ 1048576) :
    Calls Try.prog 59 #[.agg #[.int .i64 s.ts, .int .i64 s.beta, v]] w fun e w' => ∃ v', e = .returned v' ∧ OwnF Hop.f 5 w.heap.size 73 w' v' (strip s.hops) ∧ Ext w w' := by
  obtain ⟨o, cap, rfl, hsm⟩ := r.shape
  have hx0 : Ext w (w.alloc (.cells #[.int .i64 s.ts, .int .i64 s.beta, .slice o s.hops.length cap] 62)) := (Ext.refl _).alloc _
  have HB0 := Lib.hid (blk_new w (.cells #[.int .i64 s.ts, .int .i64 s.beta, .slice o s.hops.length cap] 62))
  go_enter Try.func59, Try.ntmps59
  obtain ⟨EH⟩ := elemHop
  obtain ⟨W0, hW0⟩ : ∃ W0 : World, W0 = (w.alloc (.cells #[.int .i64 s.ts, .int .i64 s.beta, .slice o s.hops.length cap] 62)) := ⟨_, rfl⟩
  rw [← hW0] at hx0 HB0
  have ho0 := OwnF.empty Hop.f 5 W0.heap.size 73 W0 (Nat.le_refl _)
  have hs0 : W0.heap.size = w.heap.size + 1 := by rw [hW0]; simp
  obtain ⟨ml, hml⟩ : ∃ ml, ml = strip s.hops := ⟨_, rfl⟩
  have hlm : ml.length = s.hops.length := by rw [hml]; simp [strip]
  have HAT : Hid (∀ (k : Nat) (h : k < ml.length) (h' : k < s.hops.length), ml[k] = { s.hops[k] with mac := 0 }) := Lib.hid (by intro k h h'; subst hml; simp [strip])
  rw [← hml]
  clear hml
  have HLM := Lib.hid hlm
  have HS0 := Lib.hid hs0
  clear hlm hs0
  have cf1 := blk3 HB0.out
  go_wp2_with fail
  rw [← hW0]
  rw [show w.heap.size + 1 = W0.heap.size by rw [HS0.out]]
  clear hW0
  go_loopg [3, 4] s.hops.length (fun gk out i wr => ∃ k : Nat, gk + k = s.hops.length ∧ i = .int .i64 k ∧ OwnF Hop.f 5 W0.heap.size 73 wr out (ml.take k) ∧ Ext W0 wr)
  case atStart => exact ⟨0, by omega, rfl, ho0, (Ext.refl _).alloc _⟩
  case round =>
    clear ho0
    obtain ⟨k, hgk, rfl, ho, hx⟩ := hrel
    have HGK := Lib.hid hgk
    clear hgk
    have hkl : k ≤ s.hops.length := by have h1 := HGK.out; omega
    by_cases hlt : k < s.hops.length
    · obtain ⟨b, off, rfl, hc⟩ := Hop.at (r.ext (hx0.trans hx)) k hlt
      have h4 : (k : Int) < (s.hops.length : Int) := by omega
      have hkm : k < ml.length := by rw [HLM.out]; exact hlt
      have HS := Lib.hid (show ml.take k ++ [{ s.hops[k] with mac := 0 }] = ml.take (k + 1) by rw [List.take_succ_eq_append_getElem hkm, HAT.out k hkm hlt])
      have hln : (ml.take k).length ≤ k := List.length_take_le _ _
      have HBX := Lib.hid (blk_new wr (.cells #[.int .i64 s.hops[k].asn, .int .i64 s.hops[k].ing, .int .i64 s.hops[k].eg, .int .i64 s.hops[k].exp, .int .i64 0] 73))
      have hxa : Ext wr (wr.alloc (.cells #[.int .i64 s.hops[k].asn, .int .i64 s.hops[k].ing, .int .i64 s.hops[k].eg, .int .i64 s.hops[k].exp, .int .i64 0] 73)) := (Ext.refl _).alloc _
      have hox := ho.ext hxa
      have hxx := hx.trans hxa
      clear hkm hxa
      try clear cf1
      have cf2 := blk3 (Ext.block hx HB0.out)
      go_upto_region 7 with (fail)
      clear hc cf2
      generalize wr.alloc (.cells #[.int .i64 s.hops[k].asn, .int .i64 s.hops[k].ing, .int .i64 s.hops[k].eg, .int .i64 s.hops[k].exp, .int .i64 0] 73) = wx at HBX hox hxx ⊢
      have cX := blk5 HBX.out
      go_wp2_with (at_builtin; refine app1 EH Hop.flen Hop.one rfl _ _ rfl { s.hops[k] with mac := 0 } rfl (OwnF.ext hox ((Ext.refl _).alloc _)) rfl (by exact blk_list (Hop.f { s.hops[k] with mac := 0 }) (blk_new wx _)) (by omega) (by unfold maxLen; omega) (by have h1 := hxx.size; simp; omega) ?_)
      intro v' w' ho' hg'
      have hx' := (hxx.alloc (.cells #[.int .i64 s.hops[k].asn, .int .i64 s.hops[k].ing, .int .i64 s.hops[k].eg, .int .i64 s.hops[k].exp, .int .i64 0] 73)).app (e := 73) hg' hox (Nat.le_refl _)
      rw [HS.out] at ho'
      clear hg' cX
      go_wp2_with fail
      go_roundg (gk - 1)
      case measure => have h1 := HGK.out; omega
      case rel => exact ⟨k + 1, by have h1 := HGK.out; omega, congrArg (Value.int .i64) (by first | omega | (unfold wrap64; omega)), ho', hx'⟩
    · rw [List.take_of_length_le (by rw [HLM.out]; omega)] at ho
      try clear cf1
      have cf3 := blk3 (Ext.block hx HB0.out)
      go_wp2_with fail
      go_ret
      exact ⟨_, rfl, ho.mono (by have h1 := HS0.out; omega), (hx0.trans hx)⟩


set_option maxRecDepth 100000 in
set_option maxHeartbeats 8000000 in
theorem s_DrawSegment (code : List Int) (cv : Value) (w : World) (hr : RdS Rep.byte w cv code) (hu : ∀ x ∈ code, U8 x) (hl : code.length ≤ 1048576) :
    Calls Try.prog 44 #[cv] w fun e w' => ∃ (v1 v2 v : Value) (t : Topo) (kind : Int) (a : Seg), e = .returned (.tuple #[.agg #[v1, v2], .agg #[.int .i64 a.ts, .int .i64 a.beta, v]]) ∧ TopoOk t ∧ SegDrawn t kind a ∧ OwnF ASd.f 3 w.heap.size 136 w' v1 t.ases ∧ OwnF Lnk.f 5 w.heap.size 174 w' v2 t.links ∧ OwnF Hop.f 5 w.heap.size 73 w' v a.hops ∧ Ext w w' := by
  have hx0 := ext2 w (.cells #[.slice none 0 0, .slice none 0 0] 59) (.cells #[.int .i64 0, .int .i64 0, .slice none 0 0] 62)
  have HB := al2 w (.cells #[.slice none 0 0, .slice none 0 0] 59) (.cells #[.int .i64 0, .int .i64 0, .slice none 0 0] 62)
  go_enter Try.func44, Try.ntmps44
  go_wp2_with fail
  refine (s_l1New code _ _ (hr.ext hx0) hu hl).mono ?_
  rintro e w1 ⟨g, rfl, hgl, hc1, hn1⟩
  have hgw := hc1.lt
  have s : DSt g cv code w1 w1 := ⟨hc1, Chg.refl _ _, hc1⟩
  have B2 := Ext.block hn1 HB.1
  have B3 := Ext.block hn1 HB.2
  have hg3 : w.heap.size + 1 < g := by simp at hgl; omega
  clear HB hc1
  have cb_B2 := blk2 B2
  have cb_B3 := blk3 B3
  go_wp2_with fail
  clear cb_B2 cb_B3
  have hbs := s.x.size
  refine (s_l9Draw g _ _ _ s.c).mono ?_
  rintro e w2 ⟨v1, v2, va, t, kd, a, rfl, TK, SD, RA, RL, RH, hcq, hzq⟩
  replace RA := RA.mono hbs
  replace RL := RL.mono hbs
  replace RH := RH.mono hbs
  replace B2 := hzq.blkS B2 (by unfold at1; omega)
  replace B3 := hzq.blkS B3 (by unfold at1; omega)
  replace s := s.draw hcq hzq
  clear hcq hzq hbs
  obtain ⟨o1, c1, rfl, _⟩ := (OwnF.rd (hf := ASd.flen) RA).shape
  obtain ⟨o2, c2, rfl, _⟩ := (OwnF.rd (hf := Lnk.flen) RL).shape
  obtain ⟨o_a, c_a, rfl, _⟩ := (OwnF.rd (hf := Hop.flen) RH).shape
  have hxe := hx0.trans (hn1.ofCur s.x hgl)
  have hwb := (hx0.trans hn1).size
  obtain ⟨wpa, hwa, hba, hca⟩ := two_set B2 (.slice o1 t.ases.length c1) (.slice o2 t.links.length c2)
  have B3' := hca.blkS B3 (by unfold at1; omega)
  obtain ⟨wpb, hwb, hbb, hcb⟩ := three_set B3' (.int .i64 a.ts) (.int .i64 a.beta) (.slice o_a a.hops.length c_a)
  have HWA := Lib.hid hwa
  have HWB := Lib.hid hwb
  have HBA := Lib.hid (hcb.blkS hba (by unfold at1; omega))
  have HBB := Lib.hid hbb
  clear hwa hwb hba hbb B3'
  have ff0 := fr_of B2 0
  have ff1 := fr_of B2 1
  have fg0 := fr_of B3 0
  have fg1 := fr_of B3 1
  have fg2 := fr_of B3 2
  have cb2 := blk2 B2
  have cb3 := blk3 B3
  go_wp2_with fail
  rw [← HWA.out, ← HWB.out]
  clear cb2 cb3 ff0 ff1 fg0 fg1 fg2
  replace RA := RA.chg hca (fun k hk e => RA.ne B2 (by decide) (by rw [hk]; exact congrArg some e))
  replace RL := RL.chg hca (fun k hk e => RL.ne B2 (by decide) (by rw [hk]; exact congrArg some e))
  replace RH := RH.chg hca (fun k hk e => RH.ne B2 (by decide) (by rw [hk]; exact congrArg some e))
  have B3'' := hca.blkS B3 (by unfold at1; omega)
  replace RA := RA.chg hcb (fun k hk e => RA.ne B3'' (by decide) (by rw [hk]; exact congrArg some e))
  replace RL := RL.chg hcb (fun k hk e => RL.ne B3'' (by decide) (by rw [hk]; exact congrArg some e))
  replace RH := RH.chg hcb (fun k hk e => RH.ne B3'' (by decide) (by rw [hk]; exact congrArg some e))
  have cB := blk2 HBA.out
  have cC := blk3 HBB.out
  have hxf := (hxe.chg hca (fun i hi => by have h1 : i = w.heap.size := hi; omega)).chg hcb (fun i hi => by have h1 : i = w.heap.size + 1 := hi; omega)
  refine bodyPost_ret (v := .tuple #[.agg #[.slice o1 t.ases.length c1, .slice o2 t.links.length c2], .agg #[.int .i64 a.ts, .int .i64 a.beta, .slice o_a a.hops.length c_a]]) (by simp [results, Try.results44, go_sem, cB, cC]) rfl ?_
  exact ⟨_, _, _, t, kd, a, rfl, TK, SD, RA.mono hwb, RL.mono hwb, RH.mono hwb, hxf⟩

set_option maxRecDepth 100000 in
set_option maxHeartbeats 8000000 in
theorem s_l10Two (code : List Int) (cv : Value) (w : World) (hr : RdS Rep.byte w cv code) (hu : ∀ x ∈ code, U8 x) (hl : code.length ≤ 1048576) :
    Calls Try.prog 120 #[cv] w fun e w' => ∃ (v1 v2 v : Value) (t : Topo) (a : Seg), e = .returned (.tuple #[.agg #[v1, v2], .agg #[.int .i64 a.ts, .int .i64 a.beta, v]]) ∧ TopoOk t ∧ a.hops.length ≤ 5 ∧ OwnF ASd.f 3 w.heap.size 136 w' v1 t.ases ∧ OwnF Lnk.f 5 w.heap.size 174 w' v2 t.links ∧ OwnF Hop.f 5 w.heap.size 73 w' v a.hops ∧ Ext w w' := by
  have hx0 := ext2 w (.cells #[.slice none 0 0, .slice none 0 0] 59) (.cells #[.int .i64 0, .int .i64 0, .slice none 0 0] 62)
  have HB := al2 w (.cells #[.slice none 0 0, .slice none 0 0] 59) (.cells #[.int .i64 0, .int .i64 0, .slice none 0 0] 62)
  go_enter Try.func120, Try.ntmps120
  go_wp2_with fail
  refine (s_l1New code _ _ (hr.ext hx0) hu hl).mono ?_
  rintro e w1 ⟨g, rfl, hgl, hc1, hn1⟩
  have hgw := hc1.lt
  have s : DSt g cv code w1 w1 := ⟨hc1, Chg.refl _ _, hc1⟩
  have B2 := Ext.block hn1 HB.1
  have B3 := Ext.block hn1 HB.2
  have hg3 : w.heap.size + 1 < g := by simp at hgl; omega
  clear HB hc1
  have cb_B2 := blk2 B2
  have cb_B3 := blk3 B3
  go_wp2_with fail
  clear cb_B2 cb_B3
  have hbs := s.x.size
  refine (s_l9Any g _ _ _ s.c).mono ?_
  rintro e w2 ⟨v1, v2, va, t, a, rfl, TK, SD, RA, RL, RH, hcq, hzq⟩
  replace RA := RA.mono hbs
  replace RL := RL.mono hbs
  replace RH := RH.mono hbs
  replace B2 := hzq.blkS B2 (by unfold at1; omega)
  replace B3 := hzq.blkS B3 (by unfold at1; omega)
  replace s := s.draw hcq hzq
  clear hcq hzq hbs
  obtain ⟨o1, c1, rfl, _⟩ := (OwnF.rd (hf := ASd.flen) RA).shape
  obtain ⟨o2, c2, rfl, _⟩ := (OwnF.rd (hf := Lnk.flen) RL).shape
  obtain ⟨o_a, c_a, rfl, _⟩ := (OwnF.rd (hf := Hop.flen) RH).shape
  have hxe := hx0.trans (hn1.ofCur s.x hgl)
  have hwb := (hx0.trans hn1).size
  obtain ⟨wpa, hwa, hba, hca⟩ := two_set B2 (.slice o1 t.ases.length c1) (.slice o2 t.links.length c2)
  have B3' := hca.blkS B3 (by unfold at1; omega)
  obtain ⟨wpb, hwb, hbb, hcb⟩ := three_set B3' (.int .i64 a.ts) (.int .i64 a.beta) (.slice o_a a.hops.length c_a)
  have HWA := Lib.hid hwa
  have HWB := Lib.hid hwb
  have HBA := Lib.hid (hcb.blkS hba (by unfold at1; omega))
  have HBB := Lib.hid hbb
  clear hwa hwb hba hbb B3'
  have ff0 := fr_of B2 0
  have ff1 := fr_of B2 1
  have fg0 := fr_of B3 0
  have fg1 := fr_of B3 1
  have fg2 := fr_of B3 2
  have cb2 := blk2 B2
  have cb3 := blk3 B3
  go_wp2_with fail
  rw [← HWA.out, ← HWB.out]
  clear cb2 cb3 ff0 ff1 fg0 fg1 fg2
  replace RA := RA.chg hca (fun k hk e => RA.ne B2 (by decide) (by rw [hk]; exact congrArg some e))
  replace RL := RL.chg hca (fun k hk e => RL.ne B2 (by decide) (by rw [hk]; exact congrArg some e))
  replace RH := RH.chg hca (fun k hk e => RH.ne B2 (by decide) (by rw [hk]; exact congrArg some e))
  have B3'' := hca.blkS B3 (by unfold at1; omega)
  replace RA := RA.chg hcb (fun k hk e => RA.ne B3'' (by decide) (by rw [hk]; exact congrArg some e))
  replace RL := RL.chg hcb (fun k hk e => RL.ne B3'' (by decide) (by rw [hk]; exact congrArg some e))
  replace RH := RH.chg hcb (fun k hk e => RH.ne B3'' (by decide) (by rw [hk]; exact congrArg some e))
  have cB := blk2 HBA.out
  have cC := blk3 HBB.out
  have hxf := (hxe.chg hca (fun i hi => by have h1 : i = w.heap.size := hi; omega)).chg hcb (fun i hi => by have h1 : i = w.heap.size + 1 := hi; omega)
  refine bodyPost_ret (v := .tuple #[.agg #[.slice o1 t.ases.length c1, .slice o2 t.links.length c2], .agg #[.int .i64 a.ts, .int .i64 a.beta, .slice o_a a.hops.length c_a]]) (by simp [results, Try.results120, go_sem, cB, cC]) rfl ?_
  exact ⟨_, _, _, t, a, rfl, TK, SD, RA.mono hwb, RL.mono hwb, RH.mono hwb, hxf⟩

set_option maxRecDepth 100000 in
set_option maxHeartbeats 8000000 in
theorem s_DrawFirstInvalidHop (code : List Int) (cv : Value) (w : World) (hr : RdS Rep.byte w cv code) (hu : ∀ x ∈ code, U8 x) (hl : code.length ≤ 1048576) :
    Calls Try.prog 45 #[cv] w fun e w' => ∃ (v1 v2 v : Value) (t : Topo) (a : Seg), e = .returned (.tuple #[.agg #[v1, v2], .agg #[.int .i64 a.ts, .int .i64 a.beta, v]]) ∧ TopoOk t ∧ a.hops.length ≤ 5 ∧ OwnF ASd.f 3 w.heap.size 136 w' v1 t.ases ∧ OwnF Lnk.f 5 w.heap.size 174 w' v2 t.links ∧ OwnF Hop.f 5 w.heap.size 73 w' v a.hops ∧ Ext w w' := by
  have hx0 := ext2 w (.cells #[.slice none 0 0, .slice none 0 0] 59) (.cells #[.int .i64 0, .int .i64 0, .slice none 0 0] 62)
  have HB := al2 w (.cells #[.slice none 0 0, .slice none 0 0] 59) (.cells #[.int .i64 0, .int .i64 0, .slice none 0 0] 62)
  go_enter Try.func45, Try.ntmps45
  go_wp2_with fail
  refine (s_l10Two code _ _ (hr.ext hx0) hu hl).mono ?_
  rintro e w1 ⟨v1, v2, va, t, a, rfl, TK, SD, RA, RL, RH, hn1⟩
  obtain ⟨o1, c1, rfl, _⟩ := (OwnF.rd (hf := ASd.flen) RA).shape
  obtain ⟨o2, c2, rfl, _⟩ := (OwnF.rd (hf := Lnk.flen) RL).shape
  obtain ⟨o_a, c_a, rfl, _⟩ := (OwnF.rd (hf := Hop.flen) RH).shape
  have B2 := Ext.block hn1 HB.1
  have B3 := Ext.block hn1 HB.2
  have hxe := hx0.trans hn1
  have hwb := hx0.size
  obtain ⟨wpa, hwa, hba, hca⟩ := two_set B2 (.slice o1 t.ases.length c1) (.slice o2 t.links.length c2)
  have B3' := hca.blkS B3 (by unfold at1; omega)
  obtain ⟨wpb, hwb, hbb, hcb⟩ := three_set B3' (.int .i64 a.ts) (.int .i64 a.beta) (.slice o_a a.hops.length c_a)
  have HWA := Lib.hid hwa
  have HWB := Lib.hid hwb
  have HBA := Lib.hid (hcb.blkS hba (by unfold at1; omega))
  have HBB := Lib.hid hbb
  clear hwa hwb hba hbb B3'
  have ff0 := fr_of B2 0
  have ff1 := fr_of B2 1
  have fg0 := fr_of B3 0
  have fg1 := fr_of B3 1
  have fg2 := fr_of B3 2
  have cb2 := blk2 B2
  have cb3 := blk3 B3
  go_wp2_with fail
  rw [← HWA.out, ← HWB.out]
  clear cb2 cb3 ff0 ff1 fg0 fg1 fg2
  replace RA := RA.chg hca (fun k hk e => RA.ne B2 (by decide) (by rw [hk]; exact congrArg some e))
  replace RL := RL.chg hca (fun k hk e => RL.ne B2 (by decide) (by rw [hk]; exact congrArg some e))
  replace RH := RH.chg hca (fun k hk e => RH.ne B2 (by decide) (by rw [hk]; exact congrArg some e))
  have B3'' := hca.blkS B3 (by unfold at1; omega)
  replace RA := RA.chg hcb (fun k hk e => RA.ne B3'' (by decide) (by rw [hk]; exact congrArg some e))
  replace RL := RL.chg hcb (fun k hk e => RL.ne B3'' (by decide) (by rw [hk]; exact congrArg some e))
  replace RH := RH.chg hcb (fun k hk e => RH.ne B3'' (by decide) (by rw [hk]; exact congrArg some e))
  have cB := blk2 HBA.out
  have cC := blk3 HBB.out
  have hxf := (hxe.chg hca (fun i hi => by have h1 : i = w.heap.size := hi; omega)).chg hcb (fun i hi => by have h1 : i = w.heap.size + 1 := hi; omega)
  refine bodyPost_ret (v := .tuple #[.agg #[.slice o1 t.ases.length c1, .slice o2 t.links.length c2], .agg #[.int .i64 a.ts, .int .i64 a.beta, .slice o_a a.hops.length c_a]]) (by simp [results, Try.results45, go_sem, cB, cC]) rfl ?_
  exact ⟨_, _, _, t, a, rfl, TK, SD, RA.mono hwb, RL.mono hwb, RH.mono hwb, hxf⟩

set_option maxRecDepth 100000 in
set_option maxHeartbeats 8000000 in
theorem s_DrawAuthenticatedBy (code : List Int) (cv : Value) (w : World) (hr : RdS Rep.byte w cv code) (hu : ∀ x ∈ code, U8 x) (hl : code.length ≤ 1048576) :
    Calls Try.prog 47 #[cv] w fun e w' => ∃ (v1 v2 v : Value) (t : Topo) (a : Seg) (q : Int), e = .returned (.tuple #[.agg #[v1, v2], .agg #[.int .i64 a.ts, .int .i64 a.beta, v], .int .i64 q]) ∧ TopoOk t ∧ a.hops.length ≤ 5 ∧ OwnF ASd.f 3 w.heap.size 136 w' v1 t.ases ∧ OwnF Lnk.f 5 w.heap.size 174 w' v2 t.links ∧ OwnF Hop.f 5 w.heap.size 73 w' v a.hops ∧ Ext w w' := by
  have hx0 := ext2 w (.cells #[.slice none 0 0, .slice none 0 0] 59) (.cells #[.int .i64 0, .int .i64 0, .slice none 0 0] 62)
  have HB := al2 w (.cells #[.slice none 0 0, .slice none 0 0] 59) (.cells #[.int .i64 0, .int .i64 0, .slice none 0 0] 62)
  go_enter Try.func47, Try.ntmps47
  go_wp2_with fail
  refine (s_l1New code _ _ (hr.ext hx0) hu hl).mono ?_
  rintro e w1 ⟨g, rfl, hgl, hc1, hn1⟩
  have hgw := hc1.lt
  have s : DSt g cv code w1 w1 := ⟨hc1, Chg.refl _ _, hc1⟩
  have B2 := Ext.block hn1 HB.1
  have B3 := Ext.block hn1 HB.2
  have hg3 : w.heap.size + 1 < g := by simp at hgl; omega
  clear HB hc1
  have cb_B2 := blk2 B2
  have cb_B3 := blk3 B3
  go_wp2_with fail
  clear cb_B2 cb_B3
  have hbs := s.x.size
  refine (s_l9Any g _ _ _ s.c).mono ?_
  rintro e w2 ⟨v1, v2, va, t, a, rfl, TK, SD, RA, RL, RH, hcq, hzq⟩
  replace RA := RA.mono hbs
  replace RL := RL.mono hbs
  replace RH := RH.mono hbs
  replace B2 := hzq.blkS B2 (by unfold at1; omega)
  replace B3 := hzq.blkS B3 (by unfold at1; omega)
  replace s := s.draw hcq hzq
  clear hcq hzq hbs
  obtain ⟨o1, c1, rfl, _⟩ := (OwnF.rd (hf := ASd.flen) RA).shape
  obtain ⟨o2, c2, rfl, _⟩ := (OwnF.rd (hf := Lnk.flen) RL).shape
  obtain ⟨o_a, c_a, rfl, _⟩ := (OwnF.rd (hf := Hop.flen) RH).shape
  have cb_B2 := blk2 B2
  have cb_B3 := blk3 B3
  go_upto_region 3 with (fail)
  clear cb_B2 cb_B3
  have hxa := ext2 w2 (.cells #[.slice o1 t.ases.length c1, .slice o2 t.links.length c2] 59) (.cells #[.int .i64 a.ts, .int .i64 a.beta, .slice o_a a.hops.length c_a] 62)
  have BB := al2 w2 (.cells #[.slice o1 t.ases.length c1, .slice o2 t.links.length c2] 59) (.cells #[.int .i64 a.ts, .int .i64 a.beta, .slice o_a a.hops.length c_a] 62)
  have ltw_B6 : w1.heap.size ≤ w2.heap.size := s.x.size
  have lt_B2_B6 : w.heap.size < w2.heap.size := blk_lt B2
  have lt_B3_B6 : (w.heap.size + 1) < w2.heap.size := blk_lt B3
  replace B2 := Ext.block hxa B2
  replace B3 := Ext.block hxa B3
  replace RA := RA.ext hxa
  replace RL := RL.ext hxa
  replace RH := RH.ext hxa
  replace s := s.ext hxa
  have B6 := BB.1
  have B7 := BB.2
  obtain ⟨b6, eb6⟩ : ∃ b, b = w2.heap.size := ⟨_, rfl⟩
  rw [← eb6] at B6 B7 ltw_B6 lt_B2_B6 lt_B3_B6 ⊢
  clear hxa BB
  generalize ((w2.alloc (.cells #[.slice o1 t.ases.length c1, .slice o2 t.links.length c2] 59)).alloc (.cells #[.int .i64 a.ts, .int .i64 a.beta, .slice o_a a.hops.length c_a] 62)) = wa at B2 B3 B6 B7 RA RL RH s ⊢
  clear eb6
  have hb6w : b6 + 1 < wa.heap.size := blk_lt B7
  have hgwa : g < wa.heap.size := s.c.lt
  refine wp_region_set (fun k => k = g ∨ k = w.heap.size ∨ k = w.heap.size + 1 ∨ wa.heap.size ≤ k) [([0, 1, 2], 3), ([4], 5), ([], 6)] [7] (by kernel_rfl) (by kernel_rfl) (by kernel_rfl) ?_
  have cb6 := blk2 B6
  have cb7 := blk3 B7
  have q0 := ChgSW.cell (S := fun k => k = g ∨ k = w.heap.size ∨ k = w.heap.size + 1 ∨ wa.heap.size ≤ k) (cb6.1) (by simp only; omega)
  have q1 := ChgSW.cell (S := fun k => k = g ∨ k = w.heap.size ∨ k = w.heap.size + 1 ∨ wa.heap.size ≤ k) (cb6.2) (by simp only; omega)
  have q2 := ChgSW.cell (S := fun k => k = g ∨ k = w.heap.size ∨ k = w.heap.size + 1 ∨ wa.heap.size ≤ k) (cb7.1) (by simp only; omega)
  have q3 := ChgSW.cell (S := fun k => k = g ∨ k = w.heap.size ∨ k = w.heap.size + 1 ∨ wa.heap.size ≤ k) (cb7.2.1) (by simp only; omega)
  have q4 := ChgSW.cell (S := fun k => k = g ∨ k = w.heap.size ∨ k = w.heap.size + 1 ∨ wa.heap.size ≤ k) (cb7.2.2) (by simp only; omega)
  clear cb6 cb7
  simp only [wpBlocks, pickOps, List.filterMap_cons, List.filterMap_nil, List.getElem?_toArray, List.getElem?_cons_zero, List.getElem?_cons_succ]
  have hch : Chg (fun k => k = g ∨ k = w.heap.size ∨ k = w.heap.size + 1 ∨ wa.heap.size ≤ k) wa wa.drew := Chg.ofExt (Ext.refl wa).drew
  replace B2 := Ext.block ((Ext.refl wa).drew) B2
  replace B3 := Ext.block ((Ext.refl wa).drew) B3
  replace B6 := Ext.block ((Ext.refl wa).drew) B6
  replace B7 := Ext.block ((Ext.refl wa).drew) B7
  replace RA := RA.ext ((Ext.refl wa).drew)
  replace RL := RL.ext ((Ext.refl wa).drew)
  replace RH := RH.ext ((Ext.refl wa).drew)
  replace s := s.ext ((Ext.refl wa).drew)
  repeat (first | go_big_quiet_step (fail) | quiet_step (fail))
  refine wpQuiet_nil ?_
  go_wp2_with fail
  refine (s_l1Below g 9 _ _ _ s.c).mono ?_
  rintro e w3 ⟨x, rfl, hy0, hy1, hcq, hzq⟩
  replace hch := hch.trans (hzq.mono (fun k hk => .inl hk))
  replace B2 := hzq.blkS B2 (by unfold at1; omega)
  replace B3 := hzq.blkS B3 (by unfold at1; omega)
  replace B6 := hzq.blkS B6 (by unfold at1; omega)
  replace B7 := hzq.blkS B7 (by unfold at1; omega)
  replace RA := RA.at1 hzq hgw
  replace RL := RL.at1 hzq hgw
  replace RH := RH.at1 hzq hgw
  replace s := s.draw hcq hzq
  clear hcq hzq
  go_wp2_with fail
  refine ⟨⟨⟨_, hch⟩, rfl⟩, ?_⟩
  repeat (first | go_big_quiet_step (fail) | quiet_step (fail))
  refine wpQuiet_nil ?_
  have hxe := hx0.trans (hn1.ofCur s.x hgl)
  have hwb := (hx0.trans hn1).size
  obtain ⟨wpa, hwa, hba, hca⟩ := two_set B2 (.slice o1 t.ases.length c1) (.slice o2 t.links.length c2)
  have HWa := Lib.hid hwa
  clear hwa
  have ff0 := fr_of B2 0
  have ff1 := fr_of B2 1
  have cb := blk2 B2
  go_wp2_with fail
  rw [← HWa.out]
  clear HWa cb ff0 ff1
  replace hch := hch.trans (hca.mono (fun k h => .inr (.inl h)))
  refine ⟨⟨⟨_, hch⟩, rfl⟩, ?_⟩
  replace RA := RA.chg hca (fun k hk e => RA.ne B2 (by decide) (by rw [hk]; exact congrArg some e))
  replace RL := RL.chg hca (fun k hk e => RL.ne B2 (by decide) (by rw [hk]; exact congrArg some e))
  replace RH := RH.chg hca (fun k hk e => RH.ne B2 (by decide) (by rw [hk]; exact congrArg some e))
  replace B3 := hca.blkS B3 (by unfold at1; omega)
  replace B6 := hca.blkS B6 (by unfold at1; omega)
  replace B7 := hca.blkS B7 (by unfold at1; omega)
  replace B2 := hba
  clear hba
  replace hxe := hxe.chg hca (fun i hi => by have h1 : i = w.heap.size := hi; omega)
  clear hca
  repeat (first | go_big_quiet_step (fail) | quiet_step (fail))
  refine wpQuiet_nil ?_
  obtain ⟨wpb, hwb, hbb, hcb⟩ := three_set B3 (.int .i64 a.ts) (.int .i64 a.beta) (.slice o_a a.hops.length c_a)
  have HWb := Lib.hid hwb
  clear hwb
  have ff0 := fr_of B3 0
  have ff1 := fr_of B3 1
  have ff2 := fr_of B3 2
  have cb := blk3 B3
  go_wp2_with fail
  rw [← HWb.out]
  clear HWb cb ff0 ff1 ff2
  replace hch := hch.trans (hcb.mono (fun k h => .inr (.inr (.inl h))))
  refine ⟨⟨⟨_, hch⟩, rfl⟩, ?_⟩
  replace RA := RA.chg hcb (fun k hk e => RA.ne B3 (by decide) (by rw [hk]; exact congrArg some e))
  replace RL := RL.chg hcb (fun k hk e => RL.ne B3 (by decide) (by rw [hk]; exact congrArg some e))
  replace RH := RH.chg hcb (fun k hk e => RH.ne B3 (by decide) (by rw [hk]; exact congrArg some e))
  replace B2 := hcb.blkS B2 (by unfold at1; omega)
  replace B6 := hcb.blkS B6 (by unfold at1; omega)
  replace B7 := hcb.blkS B7 (by unfold at1; omega)
  replace B3 := hbb
  clear hbb
  replace hxe := hxe.chg hcb (fun i hi => by have h1 : i = (w.heap.size + 1) := hi; omega)
  clear hcb
  repeat (first | go_big_quiet_step (fail) | quiet_step (fail))
  refine wpQuiet_nil ?_
  refine NoPanic.normal ?_
  clear q0 q1 q2 q3 q4
  have cB := blk2 B2
  have cC := blk3 B3
  go_wp2_with fail
  refine bodyPost_ret (v := .tuple #[.agg #[.slice o1 t.ases.length c1, .slice o2 t.links.length c2], .agg #[.int .i64 a.ts, .int .i64 a.beta, .slice o_a a.hops.length c_a], .int .i64 (x - 1)]) (by simp [results, Try.results47, go_sem, cB, cC]) rfl ?_
  exact ⟨_, _, _, t, a, _, rfl, TK, SD, RA.mono hwb, RL.mono hwb, RH.mono hwb, hxe⟩

set_option maxRecDepth 100000 in
set_option maxHeartbeats 8000000 in
theorem s_DrawSegmentUsable (code : List Int) (cv : Value) (w : World) (hr : RdS Rep.byte w cv code) (hu : ∀ x ∈ code, U8 x) (hl : code.length ≤ 1048576) :
    Calls Try.prog 46 #[cv] w fun e w' => ∃ (v1 v2 v : Value) (t : Topo) (a : Seg) (q : Int), e = .returned (.tuple #[.agg #[v1, v2], .agg #[.int .i64 a.ts, .int .i64 a.beta, v], .int .i64 q]) ∧ TopoOk t ∧ a.hops.length ≤ 5 ∧ OwnF ASd.f 3 w.heap.size 136 w' v1 t.ases ∧ OwnF Lnk.f 5 w.heap.size 174 w' v2 t.links ∧ OwnF Hop.f 5 w.heap.size 73 w' v a.hops ∧ Ext w w' := by
  have hx0 := ext2 w (.cells #[.slice none 0 0, .slice none 0 0] 59) (.cells #[.int .i64 0, .int .i64 0, .slice none 0 0] 62)
  have HB := al2 w (.cells #[.slice none 0 0, .slice none 0 0] 59) (.cells #[.int .i64 0, .int .i64 0, .slice none 0 0] 62)
  go_enter Try.func46, Try.ntmps46
  go_wp2_with fail
  refine (s_l1New code _ _ (hr.ext hx0) hu hl).mono ?_
  rintro e w1 ⟨g, rfl, hgl, hc1, hn1⟩
  have hgw := hc1.lt
  have s : DSt g cv code w1 w1 := ⟨hc1, Chg.refl _ _, hc1⟩
  have B2 := Ext.block hn1 HB.1
  have B3 := Ext.block hn1 HB.2
  have hg3 : w.heap.size + 1 < g := by simp at hgl; omega
  clear HB hc1
  have cb_B2 := blk2 B2
  have cb_B3 := blk3 B3
  go_wp2_with fail
  clear cb_B2 cb_B3
  have hbs := s.x.size
  refine (s_l9Any g _ _ _ s.c).mono ?_
  rintro e w2 ⟨v1, v2, va, t, a, rfl, TK, SD, RA, RL, RH, hcq, hzq⟩
  replace RA := RA.mono hbs
  replace RL := RL.mono hbs
  replace RH := RH.mono hbs
  replace B2 := hzq.blkS B2 (by unfold at1; omega)
  replace B3 := hzq.blkS B3 (by unfold at1; omega)
  replace s := s.draw hcq hzq
  clear hcq hzq hbs
  obtain ⟨o1, c1, rfl, _⟩ := (OwnF.rd (hf := ASd.flen) RA).shape
  obtain ⟨o2, c2, rfl, _⟩ := (OwnF.rd (hf := Lnk.flen) RL).shape
  obtain ⟨o_a, c_a, rfl, _⟩ := (OwnF.rd (hf := Hop.flen) RH).shape
  have cb_B2 := blk2 B2
  have cb_B3 := blk3 B3
  go_upto_region 3 with (fail)
  clear cb_B2 cb_B3
  have hxa := ext2 w2 (.cells #[.slice o1 t.ases.length c1, .slice o2 t.links.length c2] 59) (.cells #[.int .i64 a.ts, .int .i64 a.beta, .slice o_a a.hops.length c_a] 62)
  have BB := al2 w2 (.cells #[.slice o1 t.ases.length c1, .slice o2 t.links.length c2] 59) (.cells #[.int .i64 a.ts, .int .i64 a.beta, .slice o_a a.hops.length c_a] 62)
  have ltw_B6 : w1.heap.size ≤ w2.heap.size := s.x.size
  have lt_B2_B6 : w.heap.size < w2.heap.size := blk_lt B2
  have lt_B3_B6 : (w.heap.size + 1) < w2.heap.size := blk_lt B3
  replace B2 := Ext.block hxa B2
  replace B3 := Ext.block hxa B3
  replace RA := RA.ext hxa
  replace RL := RL.ext hxa
  replace RH := RH.ext hxa
  replace s := s.ext hxa
  have B6 := BB.1
  have B7 := BB.2
  obtain ⟨b6, eb6⟩ : ∃ b, b = w2.heap.size := ⟨_, rfl⟩
  rw [← eb6] at B6 B7 ltw_B6 lt_B2_B6 lt_B3_B6 ⊢
  clear hxa BB
  generalize ((w2.alloc (.cells #[.slice o1 t.ases.length c1, .slice o2 t.links.length c2] 59)).alloc (.cells #[.int .i64 a.ts, .int .i64 a.beta, .slice o_a a.hops.length c_a] 62)) = wa at B2 B3 B6 B7 RA RL RH s ⊢
  clear eb6
  have hb6w : b6 + 1 < wa.heap.size := blk_lt B7
  have hgwa : g < wa.heap.size := s.c.lt
  refine wp_region_set (fun k => k = g ∨ k = w.heap.size ∨ k = w.heap.size + 1 ∨ wa.heap.size ≤ k) [([0, 1, 2, 3, 4, 5, 6, 7, 8, 10], 9), ([], 11), ([12], 13), ([], 14), ([], 15), ([], 16)] [17] (by kernel_rfl) (by kernel_rfl) (by kernel_rfl) ?_
  have cb6 := blk2 B6
  have cb7 := blk3 B7
  have q0 := ChgSW.cell (S := fun k => k = g ∨ k = w.heap.size ∨ k = w.heap.size + 1 ∨ wa.heap.size ≤ k) (cb6.1) (by simp only; omega)
  have q1 := ChgSW.cell (S := fun k => k = g ∨ k = w.heap.size ∨ k = w.heap.size + 1 ∨ wa.heap.size ≤ k) (cb6.2) (by simp only; omega)
  have q2 := ChgSW.cell (S := fun k => k = g ∨ k = w.heap.size ∨ k = w.heap.size + 1 ∨ wa.heap.size ≤ k) (cb7.1) (by simp only; omega)
  have q3 := ChgSW.cell (S := fun k => k = g ∨ k = w.heap.size ∨ k = w.heap.size + 1 ∨ wa.heap.size ≤ k) (cb7.2.1) (by simp only; omega)
  have q4 := ChgSW.cell (S := fun k => k = g ∨ k = w.heap.size ∨ k = w.heap.size + 1 ∨ wa.heap.size ≤ k) (cb7.2.2) (by simp only; omega)
  clear cb6 cb7
  simp only [wpBlocks, pickOps, List.filterMap_cons, List.filterMap_nil, List.getElem?_toArray, List.getElem?_cons_zero, List.getElem?_cons_succ]
  have hch : Chg (fun k => k = g ∨ k = w.heap.size ∨ k = w.heap.size + 1 ∨ wa.heap.size ≤ k) wa wa.drew := Chg.ofExt (Ext.refl wa).drew
  replace B2 := Ext.block ((Ext.refl wa).drew) B2
  replace B3 := Ext.block ((Ext.refl wa).drew) B3
  replace B6 := Ext.block ((Ext.refl wa).drew) B6
  replace B7 := Ext.block ((Ext.refl wa).drew) B7
  replace RA := RA.ext ((Ext.refl wa).drew)
  replace RL := RL.ext ((Ext.refl wa).drew)
  replace RH := RH.ext ((Ext.refl wa).drew)
  replace s := s.ext ((Ext.refl wa).drew)
  repeat (first | go_big_quiet_step (fail) | quiet_step (fail))
  refine wpQuiet_nil ?_
  go_wp2_with fail
  refine (s_SegmentExpiry a _ _ (OwnF.rd (hf := Hop.flen) RH) (by omega)).mono ?_
  rintro e w3 ⟨rfl, hzq⟩
  replace hch := hch.trans (Chg.ofExt hzq)
  replace B2 := Ext.block hzq B2
  replace B3 := Ext.block hzq B3
  replace B6 := Ext.block hzq B6
  replace B7 := Ext.block hzq B7
  replace RA := RA.ext hzq
  replace RL := RL.ext hzq
  replace RH := RH.ext hzq
  replace s := s.ext hzq
  clear hzq
  go_wp2_with fail
  refine ⟨⟨⟨_, hch⟩, rfl⟩, ?_⟩
  repeat (first | go_big_quiet_step (fail) | quiet_step (fail))
  refine wpQuiet_nil ?_
  go_wp2_with fail
  refine (s_SegmentExpiry a _ _ (OwnF.rd (hf := Hop.flen) RH) (by omega)).mono ?_
  rintro e w4 ⟨rfl, hzq⟩
  replace hch := hch.trans (Chg.ofExt hzq)
  replace B2 := Ext.block hzq B2
  replace B3 := Ext.block hzq B3
  replace B6 := Ext.block hzq B6
  replace B7 := Ext.block hzq B7
  replace RA := RA.ext hzq
  replace RL := RL.ext hzq
  replace RH := RH.ext hzq
  replace s := s.ext hzq
  clear hzq
  go_wp2_with fail
  refine ⟨⟨⟨_, hch⟩, rfl⟩, ?_⟩
  repeat (first | go_big_quiet_step (fail) | quiet_step (fail))
  refine wpQuiet_nil ?_
  go_wp2_with fail
  have hxa : Ext w4 (w4.alloc (.cells (([a.ts, wrap64 (a.ts - 1), leastExp a.hops, wrap64 (leastExp a.hops + 1), 60] : List Int).flatMap intF).toArray 3)) := (Ext.refl _).alloc _
  have hcha := hch.trans (Chg.ofExt hxa)
  refine ⟨⟨⟨_, hcha⟩, rfl⟩, ?_⟩
  clear hcha hxa
  repeat (first | go_big_quiet_step (fail) | quiet_step (fail))
  refine wpQuiet_nil ?_
  go_wp2_with fail
  refine (s_l1Int g [a.ts, wrap64 (a.ts - 1), leastExp a.hops, wrap64 (leastExp a.hops + 1), 60] _ _ w4 s.c (by simp) (by simp)).mono ?_
  rintro e w5 ⟨x, rfl, hxm, hcq, hzq⟩
  replace hch := hch.trans (hzq.mono (fun k hk => .inl hk))
  clear hxm
  replace B2 := hzq.blkS B2 (by unfold at1; omega)
  replace B3 := hzq.blkS B3 (by unfold at1; omega)
  replace B6 := hzq.blkS B6 (by unfold at1; omega)
  replace B7 := hzq.blkS B7 (by unfold at1; omega)
  replace RA := RA.at1 hzq hgw
  replace RL := RL.at1 hzq hgw
  replace RH := RH.at1 hzq hgw
  replace s := s.draw hcq hzq
  clear hcq hzq
  go_wp2_with fail
  refine ⟨⟨⟨_, hch⟩, rfl⟩, ?_⟩
  repeat (first | go_big_quiet_step (fail) | quiet_step (fail))
  refine wpQuiet_nil ?_
  have hxe := hx0.trans (hn1.ofCur s.x hgl)
  have hwb := (hx0.trans hn1).size
  obtain ⟨wpa, hwa, hba, hca⟩ := two_set B2 (.slice o1 t.ases.length c1) (.slice o2 t.links.length c2)
  have HWa := Lib.hid hwa
  clear hwa
  have ff0 := fr_of B2 0
  have ff1 := fr_of B2 1
  have cb := blk2 B2
  go_wp2_with fail
  rw [← HWa.out]
  clear HWa cb ff0 ff1
  replace hch := hch.trans (hca.mono (fun k h => .inr (.inl h)))
  refine ⟨⟨⟨_, hch⟩, rfl⟩, ?_⟩
  replace RA := RA.chg hca (fun k hk e => RA.ne B2 (by decide) (by rw [hk]; exact congrArg some e))
  replace RL := RL.chg hca (fun k hk e => RL.ne B2 (by decide) (by rw [hk]; exact congrArg some e))
  replace RH := RH.chg hca (fun k hk e => RH.ne B2 (by decide) (by rw [hk]; exact congrArg some e))
  replace B3 := hca.blkS B3 (by unfold at1; omega)
  replace B6 := hca.blkS B6 (by unfold at1; omega)
  replace B7 := hca.blkS B7 (by unfold at1; omega)
  replace B2 := hba
  clear hba
  replace hxe := hxe.chg hca (fun i hi => by have h1 : i = w.heap.size := hi; omega)
  clear hca
  repeat (first | go_big_quiet_step (fail) | quiet_step (fail))
  refine wpQuiet_nil ?_
  obtain ⟨wpb, hwb, hbb, hcb⟩ := three_set B3 (.int .i64 a.ts) (.int .i64 a.beta) (.slice o_a a.hops.length c_a)
  have HWb := Lib.hid hwb
  clear hwb
  have ff0 := fr_of B3 0
  have ff1 := fr_of B3 1
  have ff2 := fr_of B3 2
  have cb := blk3 B3
  go_wp2_with fail
  rw [← HWb.out]
  clear HWb cb ff0 ff1 ff2
  replace hch := hch.trans (hcb.mono (fun k h => .inr (.inr (.inl h))))
  refine ⟨⟨⟨_, hch⟩, rfl⟩, ?_⟩
  replace RA := RA.chg hcb (fun k hk e => RA.ne B3 (by decide) (by rw [hk]; exact congrArg some e))
  replace RL := RL.chg hcb (fun k hk e => RL.ne B3 (by decide) (by rw [hk]; exact congrArg some e))
  replace RH := RH.chg hcb (fun k hk e => RH.ne B3 (by decide) (by rw [hk]; exact congrArg some e))
  replace B2 := hcb.blkS B2 (by unfold at1; omega)
  replace B6 := hcb.blkS B6 (by unfold at1; omega)
  replace B7 := hcb.blkS B7 (by unfold at1; omega)
  replace B3 := hbb
  clear hbb
  replace hxe := hxe.chg hcb (fun i hi => by have h1 : i = (w.heap.size + 1) := hi; omega)
  clear hcb
  repeat (first | go_big_quiet_step (fail) | quiet_step (fail))
  refine wpQuiet_nil ?_
  refine NoPanic.normal ?_
  clear q0 q1 q2 q3 q4
  have cB := blk2 B2
  have cC := blk3 B3
  go_wp2_with fail
  refine bodyPost_ret (v := .tuple #[.agg #[.slice o1 t.ases.length c1, .slice o2 t.links.length c2], .agg #[.int .i64 a.ts, .int .i64 a.beta, .slice o_a a.hops.length c_a], .int .i64 x]) (by simp [results, Try.results46, go_sem, cB, cC]) rfl ?_
  exact ⟨_, _, _, t, a, _, rfl, TK, SD, RA.mono hwb, RL.mono hwb, RH.mono hwb, hxe⟩


theorem betaAt_set {ts ts2 beta : Int} {hs : List Hop} {i j : Nat} {h' : Hop} (hj : j ≤ i) (hi : i < hs.length) : betaAt ⟨ts2, beta, hs.set i h'⟩ j = betaAt ⟨ts, beta, hs⟩ j := by
  rw [betaAt_nat (by simp; omega), betaAt_nat (by simp only; omega)]
  simp only
  rw [List.take_set_of_le hj]
/-- The hops ahead of a changed one verify; it does not: so it is the first. -/
theorem bad_at {t : Topo} {s : Seg} (S : Sealed t s.ts s.beta s.hops) {i : Nat} (hi : i < s.hops.length) {h' : Hop} (hv : verHop t s.ts (betaAt s i) h' = false) : firstBad t ⟨s.ts, s.beta, s.hops.set i h'⟩ = i := by
  unfold firstBad
  refine badFrom_hit (Nat.zero_le _) (by simp; omega) (fun j _ hj => ?_) ?_
  · simp only
    rw [betaAt_set (ts := s.ts) (by omega) hi, hopAt_get (by simp; omega), List.getElem_set_ne (by omega)]
    exact S j (by omega)
  · simp only
    rw [betaAt_set (ts := s.ts) (Nat.le_refl _) hi, hopAt_get (by simp; omega), List.getElem_set_self]
    exact hv
theorem ver_mac {t : Topo} {ts b : Int} {h : Hop} (hv : verHop t ts b h = true) : h.mac = hopMac (asAt t h.asn).key ts b h ∧ validHop h = true := by
  unfold verHop at hv
  simp only [Bool.and_eq_true, beq_iff_eq] at hv
  exact ⟨hv.2, hv.1.1⟩
theorem ver_no {t : Topo} {ts b : Int} {h : Hop} (hv : h.mac ≠ hopMac (asAt t h.asn).key ts b h) : verHop t ts b h = false := by
  unfold verHop
  have : (h.mac == hopMac (asAt t h.asn).key ts b h) = false := by rw [beq_eq_false_iff_ne]; exact hv
  rw [this]; simp
theorem mac_exp {k ts b : Int} {h : Hop} (he : 0 ≤ h.exp ∧ h.exp ≤ 1000000) : hopMac k ts b { h with exp := h.exp + 1 } ≠ hopMac k ts b h := by
  have := mac_set k [ts, b, h.asn, h.ing, h.eg, h.exp] 5 (by simp) (h.exp + 1) (by simp; omega)
  simpa [hopMac] using this
theorem mac_ts {k ts b : Int} {h : Hop} (he : 0 ≤ ts ∧ ts ≤ 1000000) : hopMac k (ts + 1) b h ≠ hopMac k ts b h := by
  have := mac_set k [ts, b, h.asn, h.ing, h.eg, h.exp] 0 (by simp) (ts + 1) (by simp; omega)
  simpa [hopMac] using this
/-- A later expiry. -/
theorem bad_exp {t : Topo} {s : Seg} (S : Sealed t s.ts s.beta s.hops) {i : Nat} (hi : i < s.hops.length) : firstBad t ⟨s.ts, s.beta, s.hops.set i { s.hops[i] with exp := s.hops[i].exp + 1 }⟩ = i := by
  obtain ⟨h1, h2⟩ := ver_mac (S i hi)
  refine bad_at S hi (ver_no ?_)
  have he : 0 ≤ s.hops[i].exp ∧ s.hops[i].exp ≤ 1000000 := by
    unfold validHop at h2
    simp only [Bool.and_eq_true] at h2
    exact inR_true.1 h2.1.2
  show s.hops[i].mac ≠ _
  rw [h1]
  exact fun e => mac_exp he e.symm
/-- Another code. -/
theorem bad_mac {t : Topo} {s : Seg} (S : Sealed t s.ts s.beta s.hops) {i : Nat} (hi : i < s.hops.length) {a : Int} (h0 : 0 ≤ a) (h1 : a ≤ 255) : firstBad t ⟨s.ts, s.beta, s.hops.set i { s.hops[i] with mac := (s.hops[i].mac + 1 + a) % 2147483647 }⟩ = i := by
  obtain ⟨e1, e2⟩ := ver_mac (S i hi)
  have hr : 0 ≤ s.hops[i].mac ∧ s.hops[i].mac ≤ 2147483646 := by
    unfold validHop at e2
    simp only [Bool.and_eq_true] at e2
    exact inR_true.1 e2.2
  refine bad_at S hi (ver_no ?_)
  show (s.hops[i].mac + 1 + a) % 2147483647 ≠ hopMac (asAt t s.hops[i].asn).key s.ts (betaAt s i) s.hops[i]
  have e3 : s.hops[i].mac = hopMac (asAt t s.hops[i].asn).key s.ts (betaAt s i) s.hops[i] := e1
  rw [← e3]
  omega
/-- Another time. -/
theorem bad_ts {t : Topo} {s : Seg} (S : Sealed t s.ts s.beta s.hops) (hts : 0 ≤ s.ts ∧ s.ts ≤ 1000000) : firstBad t ⟨s.ts + 1, s.beta, s.hops⟩ ≤ 0 := by
  unfold firstBad
  simp only
  by_cases hl : 0 < s.hops.length
  · have := badFrom_hit (t := t) (s := ⟨s.ts + 1, s.beta, s.hops⟩) (n := s.hops.length) (k := 0) (j := 0) (Nat.le_refl _) (by omega) (fun j _ hj => by omega) (by
      simp only
      rw [hopAt_get hl]
      obtain ⟨e1, _⟩ := ver_mac (S 0 hl)
      refine ver_no ?_
      have hb : betaAt ⟨s.ts + 1, s.beta, s.hops⟩ (0 : Nat) = betaAt ⟨s.ts, s.beta, s.hops⟩ (0 : Nat) := by rw [betaAt_nat (Nat.zero_le _), betaAt_nat (Nat.zero_le _)]
      rw [hb, e1]
      exact fun e => mac_ts hts e.symm)
    rw [this]; simp
  · have h0 : s.hops.length = 0 := by omega
    rw [h0]; unfold badFrom; omega
theorem auth_self {t : Topo} {s : Seg} (S : Sealed t s.ts s.beta s.hops) {i : Nat} (hi : i < s.hops.length) : authBy t s s.hops[i].asn = true := authBy_yes hi (by simp) (S i hi)
theorem valid_not {t : Topo} {s : Seg} {i : Nat} (h : firstBad t s = i) : validSeg t s = false := by
  unfold validSeg
  have : decide (firstBad t s < 0) = false := by rw [decide_eq_false_iff_not]; omega
  rw [this]; simp

theorem l_atE (code : List Int) (v : Value) (i : Int) (w : World) (hr : RdS Rep.byte w v code) (hu : ∀ x ∈ code, U8 x) (h0 : 0 ≤ i) (h1 : i ≤ 1048576) (hl : code.length ≤ 1048576) :
    Calls Try.prog 40 #[v, .int .i64 i] w fun e w' => ∃ r : Int, e = .returned (.int .i64 r) ∧ 0 ≤ r ∧ r ≤ 255 ∧ Ext w w' :=
  (l_at code v i w hr hu h0 h1 hl).mono fun _ w' ⟨r, a1, a2, a3, a4⟩ => ⟨r, a1, a2, a3, a4 ▸ Ext.refl _⟩
theorem l_sameHopsT (a : List Hop) (va vb : Value) (w : World) (ra : RdS Hop.rep w va a) (rb : RdS Hop.rep w vb a) :
    Calls Try.prog 57 #[va, vb] w fun e w' => e = .returned (.bool true) ∧ Ext w w' :=
  (l_sameHops a va a vb w ra rb).mono fun _ w' ⟨h1, h2⟩ => ⟨by rw [h1]; simp, h2⟩

set_option maxRecDepth 100000 in
set_option maxHeartbeats 40000000 in
theorem l_FnChecks (code : List Int) (cv : Value) (w : World) (hr : RdS Rep.byte w cv code) (hu : ∀ x ∈ code, U8 x) :
    Calls Try.prog 6 #[cv] w fun e w' => e = .returned (.bool true) ∧ Ext w w' := by
  obtain ⟨co, cc, rfl, _⟩ := hr.shape
  by_cases hbig : 1048576 < code.length
  · have hb1 : decide (1048576 < code.length) = true := by simpa using hbig
    have HB1 := Lib.hid hb1; clear hb1
    go_enter Try.func6, Try.ntmps6
    go_wp2_with fail
    refine (l_big code _ _ hr).mono ?_
    rintro e _ ⟨rfl, rfl⟩
    rw [HB1.out]
    go_wp2_with fail
    go_ret
    exact ⟨rfl, Ext.refl _⟩
  have hb1 : decide (1048576 < code.length) = false := by simpa using hbig
  have hl : code.length ≤ 1048576 := by omega
  have HB1 := Lib.hid hb1; clear hb1 hbig
  go_enter Try.func6, Try.ntmps6
  go_wp2_with fail
  refine (l_big code _ _ hr).mono ?_
  rintro e _ ⟨rfl, rfl⟩
  rw [HB1.out]
  go_wp2_with fail
  refine (s_DrawSegment code _ _ (hr.ext (Ext.refl _)) hu hl).mono ?_
  rintro e w1 ⟨v1, v2, va, t1, kd, a1, rfl, TK1, SD, RA, RL, RH, hz1⟩
  obtain ⟨oA1, cA1, rfl, _⟩ := (OwnF.rd (hf := ASd.flen) RA).shape
  obtain ⟨oL1, cL1, rfl, _⟩ := (OwnF.rd (hf := Lnk.flen) RL).shape
  obtain ⟨oH1, cH1, rfl, _⟩ := (OwnF.rd (hf := Hop.flen) RH).shape
  have rA1 := OwnF.rd (hf := ASd.flen) RA
  have rL1 := OwnF.rd (hf := Lnk.flen) RL
  have rH1 := OwnF.rd (hf := Hop.flen) RH
  clear RA RL RH
  have hx1 := ext2 w1 (.cells #[.slice oA1 t1.ases.length cA1, .slice oL1 t1.links.length cL1] 59) (.cells #[.int .i64 a1.ts, .int .i64 a1.beta, .slice oH1 a1.hops.length cH1] 62)
  have HB1 := Lib.hid (al2 w1 (.cells #[.slice oA1 t1.ases.length cA1, .slice oL1 t1.links.length cL1] 59) (.cells #[.int .i64 a1.ts, .int .i64 a1.beta, .slice oH1 a1.hops.length cH1] 62))
  have cf1 := blk2 HB1.out.1
  have cf2 := blk3 HB1.out.2
  go_wp2_with fail
  refine (s_DrawFirstInvalidHop code _ _ (hr.ext (hz1.trans hx1)) hu hl).mono ?_
  rintro e w2 ⟨v1, v2, va, t2, a2, rfl, TK2, h2l, RA, RL, RH, hz2⟩
  obtain ⟨oA2, cA2, rfl, _⟩ := (OwnF.rd (hf := ASd.flen) RA).shape
  obtain ⟨oL2, cL2, rfl, _⟩ := (OwnF.rd (hf := Lnk.flen) RL).shape
  obtain ⟨oH2, cH2, rfl, _⟩ := (OwnF.rd (hf := Hop.flen) RH).shape
  have rA2 := OwnF.rd (hf := ASd.flen) RA
  have rL2 := OwnF.rd (hf := Lnk.flen) RL
  have rH2 := OwnF.rd (hf := Hop.flen) RH
  clear RA RL RH
  have hx2 := ext2 w2 (.cells #[.slice oA2 t2.ases.length cA2, .slice oL2 t2.links.length cL2] 59) (.cells #[.int .i64 a2.ts, .int .i64 a2.beta, .slice oH2 a2.hops.length cH2] 62)
  have HB2 := Lib.hid (al2 w2 (.cells #[.slice oA2 t2.ases.length cA2, .slice oL2 t2.links.length cL2] 59) (.cells #[.int .i64 a2.ts, .int .i64 a2.beta, .slice oH2 a2.hops.length cH2] 62))
  try clear cf1
  try clear cf2
  have cf3 := blk2 (Ext.block (hz2.trans hx2) HB1.out.1)
  have cf4 := blk3 (Ext.block (hz2.trans hx2) HB1.out.2)
  have cf5 := blk2 HB2.out.1
  have cf6 := blk3 HB2.out.2
  go_wp2_with fail
  refine (s_DrawSegmentUsable code _ _ (hr.ext (((hz1.trans hx1).trans hz2).trans hx2)) hu hl).mono ?_
  rintro e w3 ⟨v1, v2, va, t3, a3, now, rfl, TK3, h3l, RA, RL, RH, hz3⟩
  obtain ⟨oA3, cA3, rfl, _⟩ := (OwnF.rd (hf := ASd.flen) RA).shape
  obtain ⟨oL3, cL3, rfl, _⟩ := (OwnF.rd (hf := Lnk.flen) RL).shape
  obtain ⟨oH3, cH3, rfl, _⟩ := (OwnF.rd (hf := Hop.flen) RH).shape
  have rA3 := OwnF.rd (hf := ASd.flen) RA
  have rL3 := OwnF.rd (hf := Lnk.flen) RL
  have rH3 := OwnF.rd (hf := Hop.flen) RH
  clear RA RL RH
  have hx3 := ext2 w3 (.cells #[.slice oA3 t3.ases.length cA3, .slice oL3 t3.links.length cL3] 59) (.cells #[.int .i64 a3.ts, .int .i64 a3.beta, .slice oH3 a3.hops.length cH3] 62)
  have HB3 := Lib.hid (al2 w3 (.cells #[.slice oA3 t3.ases.length cA3, .slice oL3 t3.links.length cL3] 59) (.cells #[.int .i64 a3.ts, .int .i64 a3.beta, .slice oH3 a3.hops.length cH3] 62))
  try clear cf3
  try clear cf4
  try clear cf5
  try clear cf6
  have cf7 := blk2 (Ext.block (((hz2.trans hx2).trans hz3).trans hx3) HB1.out.1)
  have cf8 := blk3 (Ext.block (((hz2.trans hx2).trans hz3).trans hx3) HB1.out.2)
  have cf9 := blk2 (Ext.block (hz3.trans hx3) HB2.out.1)
  have cf10 := blk3 (Ext.block (hz3.trans hx3) HB2.out.2)
  have cf11 := blk2 HB3.out.1
  have cf12 := blk3 HB3.out.2
  go_wp2_with fail
  refine (s_DrawAuthenticatedBy code _ _ (hr.ext (((((hz1.trans hx1).trans hz2).trans hx2).trans hz3).trans hx3)) hu hl).mono ?_
  rintro e w4 ⟨v1, v2, va, t4, a4, kk, rfl, TK4, h4l, RA, RL, RH, hz4⟩
  obtain ⟨oA4, cA4, rfl, _⟩ := (OwnF.rd (hf := ASd.flen) RA).shape
  obtain ⟨oL4, cL4, rfl, _⟩ := (OwnF.rd (hf := Lnk.flen) RL).shape
  obtain ⟨oH4, cH4, rfl, _⟩ := (OwnF.rd (hf := Hop.flen) RH).shape
  have rA4 := OwnF.rd (hf := ASd.flen) RA
  have rL4 := OwnF.rd (hf := Lnk.flen) RL
  have rH4 := OwnF.rd (hf := Hop.flen) RH
  clear RA RL RH
  have hx4 := ext2 w4 (.cells #[.slice oA4 t4.ases.length cA4, .slice oL4 t4.links.length cL4] 59) (.cells #[.int .i64 a4.ts, .int .i64 a4.beta, .slice oH4 a4.hops.length cH4] 62)
  have HB4 := Lib.hid (al2 w4 (.cells #[.slice oA4 t4.ases.length cA4, .slice oL4 t4.links.length cL4] 59) (.cells #[.int .i64 a4.ts, .int .i64 a4.beta, .slice oH4 a4.hops.length cH4] 62))
  have hla := SD.len
  have hts := SD.ts
  have hE0 : (firstBad t2 a2 != firstBad t2 a2) = false := by simp
  have hE1 : (segKind t2 a2 != segKind t2 a2) = false := by simp
  have hE2 : (validSeg t2 a2 != validSeg t2 a2) = false := by simp
  have hE3 : (segUsable t3 a3 now != segUsable t3 a3 now) = false := by simp
  have hE4 : (authBy t4 a4 kk != authBy t4 a4 kk) = false := by simp
  try clear cf7
  try clear cf8
  try clear cf9
  try clear cf10
  try clear cf11
  try clear cf12
  have cf13 := blk2 (Ext.block (((((hz2.trans hx2).trans hz3).trans hx3).trans hz4).trans hx4) HB1.out.1)
  have cf14 := blk3 (Ext.block (((((hz2.trans hx2).trans hz3).trans hx3).trans hz4).trans hx4) HB1.out.2)
  have cf15 := blk2 (Ext.block (((hz3.trans hx3).trans hz4).trans hx4) HB2.out.1)
  have cf16 := blk3 (Ext.block (((hz3.trans hx3).trans hz4).trans hx4) HB2.out.2)
  have cf17 := blk2 (Ext.block (hz4.trans hx4) HB3.out.1)
  have cf18 := blk3 (Ext.block (hz4.trans hx4) HB3.out.2)
  have cf19 := blk2 HB4.out.1
  have cf20 := blk3 HB4.out.2
  go_wp2_with fail
  refine planStep (.blk [0, 1, 3, 4] (.one 2 (.one 5 (.blk [6, 7, 8, 9, 11, 12] (.one 10 (.one 13 (.blk [14, 15, 16, 17, 18, 20, 21] (.one 19 (.one 22 (.blk [23, 24, 25, 26, 27, 28, 30, 31, 32] (.one 29 (.one 33 (.blk [34, 35, 36, 37, 38, 39, 41, 42, 43] (.one 40 (.one 44 (.blk [45, 46, 47, 48, 50] (.one 49 (.one 51 (.one 52 (.blk [53, 54] .done)))))))))))))))))))) [] (by kernel_rfl) (by kernel_rfl) ?_
  try clear cf13
  try clear cf14
  try clear cf15
  try clear cf16
  try clear cf17
  try clear cf18
  try clear cf19
  try clear cf20
  have cf21 := blk2 (Ext.block ((((((hz2.trans hx2).trans hz3).trans hx3).trans hz4).trans hx4).trans ((Ext.refl _).drew)) HB1.out.1)
  have cf22 := blk3 (Ext.block ((((((hz2.trans hx2).trans hz3).trans hx3).trans hz4).trans hx4).trans ((Ext.refl _).drew)) HB1.out.2)
  have cf23 := blk2 (Ext.block ((((hz3.trans hx3).trans hz4).trans hx4).trans ((Ext.refl _).drew)) HB2.out.1)
  have cf24 := blk3 (Ext.block ((((hz3.trans hx3).trans hz4).trans hx4).trans ((Ext.refl _).drew)) HB2.out.2)
  have cf25 := blk2 (Ext.block ((hz4.trans hx4).trans ((Ext.refl _).drew)) HB3.out.1)
  have cf26 := blk3 (Ext.block ((hz4.trans hx4).trans ((Ext.refl _).drew)) HB3.out.2)
  have cf27 := blk2 (Ext.block ((Ext.refl _).drew) HB4.out.1)
  have cf28 := blk3 (Ext.block ((Ext.refl _).drew) HB4.out.2)
  refine blkStep (fun K HK => ?_)
  simp only [pick, List.filterMap_cons, List.filterMap_nil, List.getElem?_toArray, List.getElem?_cons_zero, List.getElem?_cons_succ]
  go_wp2_with fail
  refine HK.out _ _ ?_
  clear HK K
  refine oneStep (fun K HK => ?_)
  simp only [pick, List.filterMap_cons, List.filterMap_nil, List.getElem?_toArray, List.getElem?_cons_zero, List.getElem?_cons_succ]
  go_wp2_with fail
  refine (i_FirstInvalidHop t2 _ _ a2 _ _ (rA2.ext (((((hx2.trans hz3).trans hx3).trans hz4).trans hx4).trans ((Ext.refl _).drew))) (rH2.ext (((((hx2.trans hz3).trans hx3).trans hz4).trans hx4).trans ((Ext.refl _).drew))) (by omega)).mono ?_
  rintro e w5 ⟨rfl, hz5⟩
  try clear cf21
  try clear cf22
  try clear cf23
  try clear cf24
  try clear cf25
  try clear cf26
  try clear cf27
  try clear cf28
  have cf29 := blk2 (Ext.block (((((((hz2.trans hx2).trans hz3).trans hx3).trans hz4).trans hx4).trans ((Ext.refl _).drew)).trans hz5) HB1.out.1)
  have cf30 := blk3 (Ext.block (((((((hz2.trans hx2).trans hz3).trans hx3).trans hz4).trans hx4).trans ((Ext.refl _).drew)).trans hz5) HB1.out.2)
  have cf31 := blk2 (Ext.block (((((hz3.trans hx3).trans hz4).trans hx4).trans ((Ext.refl _).drew)).trans hz5) HB2.out.1)
  have cf32 := blk3 (Ext.block (((((hz3.trans hx3).trans hz4).trans hx4).trans ((Ext.refl _).drew)).trans hz5) HB2.out.2)
  have cf33 := blk2 (Ext.block (((hz4.trans hx4).trans ((Ext.refl _).drew)).trans hz5) HB3.out.1)
  have cf34 := blk3 (Ext.block (((hz4.trans hx4).trans ((Ext.refl _).drew)).trans hz5) HB3.out.2)
  have cf35 := blk2 (Ext.block (((Ext.refl _).drew).trans hz5) HB4.out.1)
  have cf36 := blk3 (Ext.block (((Ext.refl _).drew).trans hz5) HB4.out.2)
  go_wp2_with fail
  refine HK.out _ _ hz5 ?_
  clear HK K
  refine oneStep (fun K HK => ?_)
  simp only [pick, List.filterMap_cons, List.filterMap_nil, List.getElem?_toArray, List.getElem?_cons_zero, List.getElem?_cons_succ]
  go_wp2_with fail
  refine (s_FirstInvalidHop t2 _ _ a2 _ _ (rA2.ext ((((((hx2.trans hz3).trans hx3).trans hz4).trans hx4).trans ((Ext.refl _).drew)).trans hz5)) (rH2.ext ((((((hx2.trans hz3).trans hx3).trans hz4).trans hx4).trans ((Ext.refl _).drew)).trans hz5)) (by omega)).mono ?_
  rintro e w6 ⟨rfl, hz6⟩
  try clear cf29
  try clear cf30
  try clear cf31
  try clear cf32
  try clear cf33
  try clear cf34
  try clear cf35
  try clear cf36
  have cf37 := blk2 (Ext.block ((((((((hz2.trans hx2).trans hz3).trans hx3).trans hz4).trans hx4).trans ((Ext.refl _).drew)).trans hz5).trans hz6) HB1.out.1)
  have cf38 := blk3 (Ext.block ((((((((hz2.trans hx2).trans hz3).trans hx3).trans hz4).trans hx4).trans ((Ext.refl _).drew)).trans hz5).trans hz6) HB1.out.2)
  have cf39 := blk2 (Ext.block ((((((hz3.trans hx3).trans hz4).trans hx4).trans ((Ext.refl _).drew)).trans hz5).trans hz6) HB2.out.1)
  have cf40 := blk3 (Ext.block ((((((hz3.trans hx3).trans hz4).trans hx4).trans ((Ext.refl _).drew)).trans hz5).trans hz6) HB2.out.2)
  have cf41 := blk2 (Ext.block ((((hz4.trans hx4).trans ((Ext.refl _).drew)).trans hz5).trans hz6) HB3.out.1)
  have cf42 := blk3 (Ext.block ((((hz4.trans hx4).trans ((Ext.refl _).drew)).trans hz5).trans hz6) HB3.out.2)
  have cf43 := blk2 (Ext.block ((((Ext.refl _).drew).trans hz5).trans hz6) HB4.out.1)
  have cf44 := blk3 (Ext.block ((((Ext.refl _).drew).trans hz5).trans hz6) HB4.out.2)
  go_wp2_with fail
  refine HK.out _ _ hz6 ?_
  clear HK K
  refine blkStep (fun K HK => ?_)
  simp only [pick, List.filterMap_cons, List.filterMap_nil, List.getElem?_toArray, List.getElem?_cons_zero, List.getElem?_cons_succ]
  go_wp2_with fail
  refine HK.out _ _ ?_
  clear HK K
  refine oneStep (fun K HK => ?_)
  simp only [pick, List.filterMap_cons, List.filterMap_nil, List.getElem?_toArray, List.getElem?_cons_zero, List.getElem?_cons_succ]
  go_wp2_with fail
  refine (i_SegmentKind t2 _ _ a2 _ _ (rA2.ext (((((((hx2.trans hz3).trans hx3).trans hz4).trans hx4).trans ((Ext.refl _).drew)).trans hz5).trans hz6)) (rL2.ext (((((((hx2.trans hz3).trans hx3).trans hz4).trans hx4).trans ((Ext.refl _).drew)).trans hz5).trans hz6)) (rH2.ext (((((((hx2.trans hz3).trans hx3).trans hz4).trans hx4).trans ((Ext.refl _).drew)).trans hz5).trans hz6)) (by omega)).mono ?_
  rintro e w7 ⟨rfl, hz7⟩
  try clear cf37
  try clear cf38
  try clear cf39
  try clear cf40
  try clear cf41
  try clear cf42
  try clear cf43
  try clear cf44
  have cf45 := blk2 (Ext.block (((((((((hz2.trans hx2).trans hz3).trans hx3).trans hz4).trans hx4).trans ((Ext.refl _).drew)).trans hz5).trans hz6).trans hz7) HB1.out.1)
  have cf46 := blk3 (Ext.block (((((((((hz2.trans hx2).trans hz3).trans hx3).trans hz4).trans hx4).trans ((Ext.refl _).drew)).trans hz5).trans hz6).trans hz7) HB1.out.2)
  have cf47 := blk2 (Ext.block (((((((hz3.trans hx3).trans hz4).trans hx4).trans ((Ext.refl _).drew)).trans hz5).trans hz6).trans hz7) HB2.out.1)
  have cf48 := blk3 (Ext.block (((((((hz3.trans hx3).trans hz4).trans hx4).trans ((Ext.refl _).drew)).trans hz5).trans hz6).trans hz7) HB2.out.2)
  have cf49 := blk2 (Ext.block (((((hz4.trans hx4).trans ((Ext.refl _).drew)).trans hz5).trans hz6).trans hz7) HB3.out.1)
  have cf50 := blk3 (Ext.block (((((hz4.trans hx4).trans ((Ext.refl _).drew)).trans hz5).trans hz6).trans hz7) HB3.out.2)
  have cf51 := blk2 (Ext.block (((((Ext.refl _).drew).trans hz5).trans hz6).trans hz7) HB4.out.1)
  have cf52 := blk3 (Ext.block (((((Ext.refl _).drew).trans hz5).trans hz6).trans hz7) HB4.out.2)
  go_wp2_with fail
  refine HK.out _ _ hz7 ?_
  clear HK K
  refine oneStep (fun K HK => ?_)
  simp only [pick, List.filterMap_cons, List.filterMap_nil, List.getElem?_toArray, List.getElem?_cons_zero, List.getElem?_cons_succ]
  go_wp2_with fail
  refine (s_SegmentKind t2 _ _ a2 _ _ (rA2.ext ((((((((hx2.trans hz3).trans hx3).trans hz4).trans hx4).trans ((Ext.refl _).drew)).trans hz5).trans hz6).trans hz7)) (rL2.ext ((((((((hx2.trans hz3).trans hx3).trans hz4).trans hx4).trans ((Ext.refl _).drew)).trans hz5).trans hz6).trans hz7)) (rH2.ext ((((((((hx2.trans hz3).trans hx3).trans hz4).trans hx4).trans ((Ext.refl _).drew)).trans hz5).trans hz6).trans hz7)) (by omega)).mono ?_
  rintro e w8 ⟨rfl, hz8⟩
  try clear cf45
  try clear cf46
  try clear cf47
  try clear cf48
  try clear cf49
  try clear cf50
  try clear cf51
  try clear cf52
  have cf53 := blk2 (Ext.block ((((((((((hz2.trans hx2).trans hz3).trans hx3).trans hz4).trans hx4).trans ((Ext.refl _).drew)).trans hz5).trans hz6).trans hz7).trans hz8) HB1.out.1)
  have cf54 := blk3 (Ext.block ((((((((((hz2.trans hx2).trans hz3).trans hx3).trans hz4).trans hx4).trans ((Ext.refl _).drew)).trans hz5).trans hz6).trans hz7).trans hz8) HB1.out.2)
  have cf55 := blk2 (Ext.block ((((((((hz3.trans hx3).trans hz4).trans hx4).trans ((Ext.refl _).drew)).trans hz5).trans hz6).trans hz7).trans hz8) HB2.out.1)
  have cf56 := blk3 (Ext.block ((((((((hz3.trans hx3).trans hz4).trans hx4).trans ((Ext.refl _).drew)).trans hz5).trans hz6).trans hz7).trans hz8) HB2.out.2)
  have cf57 := blk2 (Ext.block ((((((hz4.trans hx4).trans ((Ext.refl _).drew)).trans hz5).trans hz6).trans hz7).trans hz8) HB3.out.1)
  have cf58 := blk3 (Ext.block ((((((hz4.trans hx4).trans ((Ext.refl _).drew)).trans hz5).trans hz6).trans hz7).trans hz8) HB3.out.2)
  have cf59 := blk2 (Ext.block ((((((Ext.refl _).drew).trans hz5).trans hz6).trans hz7).trans hz8) HB4.out.1)
  have cf60 := blk3 (Ext.block ((((((Ext.refl _).drew).trans hz5).trans hz6).trans hz7).trans hz8) HB4.out.2)
  go_wp2_with fail
  refine HK.out _ _ hz8 ?_
  clear HK K
  refine blkStep (fun K HK => ?_)
  simp only [pick, List.filterMap_cons, List.filterMap_nil, List.getElem?_toArray, List.getElem?_cons_zero, List.getElem?_cons_succ]
  go_wp2_with fail
  refine HK.out _ _ ?_
  clear HK K
  refine oneStep (fun K HK => ?_)
  simp only [pick, List.filterMap_cons, List.filterMap_nil, List.getElem?_toArray, List.getElem?_cons_zero, List.getElem?_cons_succ]
  go_wp2_with fail
  refine (i_ValidSegment t2 _ _ a2 _ _ (rA2.ext (((((((((hx2.trans hz3).trans hx3).trans hz4).trans hx4).trans ((Ext.refl _).drew)).trans hz5).trans hz6).trans hz7).trans hz8)) (rL2.ext (((((((((hx2.trans hz3).trans hx3).trans hz4).trans hx4).trans ((Ext.refl _).drew)).trans hz5).trans hz6).trans hz7).trans hz8)) (rH2.ext (((((((((hx2.trans hz3).trans hx3).trans hz4).trans hx4).trans ((Ext.refl _).drew)).trans hz5).trans hz6).trans hz7).trans hz8)) (by omega)).mono ?_
  rintro e w9 ⟨rfl, hz9⟩
  try clear cf53
  try clear cf54
  try clear cf55
  try clear cf56
  try clear cf57
  try clear cf58
  try clear cf59
  try clear cf60
  have cf61 := blk2 (Ext.block (((((((((((hz2.trans hx2).trans hz3).trans hx3).trans hz4).trans hx4).trans ((Ext.refl _).drew)).trans hz5).trans hz6).trans hz7).trans hz8).trans hz9) HB1.out.1)
  have cf62 := blk3 (Ext.block (((((((((((hz2.trans hx2).trans hz3).trans hx3).trans hz4).trans hx4).trans ((Ext.refl _).drew)).trans hz5).trans hz6).trans hz7).trans hz8).trans hz9) HB1.out.2)
  have cf63 := blk2 (Ext.block (((((((((hz3.trans hx3).trans hz4).trans hx4).trans ((Ext.refl _).drew)).trans hz5).trans hz6).trans hz7).trans hz8).trans hz9) HB2.out.1)
  have cf64 := blk3 (Ext.block (((((((((hz3.trans hx3).trans hz4).trans hx4).trans ((Ext.refl _).drew)).trans hz5).trans hz6).trans hz7).trans hz8).trans hz9) HB2.out.2)
  have cf65 := blk2 (Ext.block (((((((hz4.trans hx4).trans ((Ext.refl _).drew)).trans hz5).trans hz6).trans hz7).trans hz8).trans hz9) HB3.out.1)
  have cf66 := blk3 (Ext.block (((((((hz4.trans hx4).trans ((Ext.refl _).drew)).trans hz5).trans hz6).trans hz7).trans hz8).trans hz9) HB3.out.2)
  have cf67 := blk2 (Ext.block (((((((Ext.refl _).drew).trans hz5).trans hz6).trans hz7).trans hz8).trans hz9) HB4.out.1)
  have cf68 := blk3 (Ext.block (((((((Ext.refl _).drew).trans hz5).trans hz6).trans hz7).trans hz8).trans hz9) HB4.out.2)
  go_wp2_with fail
  refine HK.out _ _ hz9 ?_
  clear HK K
  refine oneStep (fun K HK => ?_)
  simp only [pick, List.filterMap_cons, List.filterMap_nil, List.getElem?_toArray, List.getElem?_cons_zero, List.getElem?_cons_succ]
  go_wp2_with fail
  refine (s_ValidSegment t2 _ _ a2 _ _ (rA2.ext ((((((((((hx2.trans hz3).trans hx3).trans hz4).trans hx4).trans ((Ext.refl _).drew)).trans hz5).trans hz6).trans hz7).trans hz8).trans hz9)) (rL2.ext ((((((((((hx2.trans hz3).trans hx3).trans hz4).trans hx4).trans ((Ext.refl _).drew)).trans hz5).trans hz6).trans hz7).trans hz8).trans hz9)) (rH2.ext ((((((((((hx2.trans hz3).trans hx3).trans hz4).trans hx4).trans ((Ext.refl _).drew)).trans hz5).trans hz6).trans hz7).trans hz8).trans hz9)) (by omega)).mono ?_
  rintro e w10 ⟨rfl, hz10⟩
  try clear cf61
  try clear cf62
  try clear cf63
  try clear cf64
  try clear cf65
  try clear cf66
  try clear cf67
  try clear cf68
  have cf69 := blk2 (Ext.block ((((((((((((hz2.trans hx2).trans hz3).trans hx3).trans hz4).trans hx4).trans ((Ext.refl _).drew)).trans hz5).trans hz6).trans hz7).trans hz8).trans hz9).trans hz10) HB1.out.1)
  have cf70 := blk3 (Ext.block ((((((((((((hz2.trans hx2).trans hz3).trans hx3).trans hz4).trans hx4).trans ((Ext.refl _).drew)).trans hz5).trans hz6).trans hz7).trans hz8).trans hz9).trans hz10) HB1.out.2)
  have cf71 := blk2 (Ext.block ((((((((((hz3.trans hx3).trans hz4).trans hx4).trans ((Ext.refl _).drew)).trans hz5).trans hz6).trans hz7).trans hz8).trans hz9).trans hz10) HB2.out.1)
  have cf72 := blk3 (Ext.block ((((((((((hz3.trans hx3).trans hz4).trans hx4).trans ((Ext.refl _).drew)).trans hz5).trans hz6).trans hz7).trans hz8).trans hz9).trans hz10) HB2.out.2)
  have cf73 := blk2 (Ext.block ((((((((hz4.trans hx4).trans ((Ext.refl _).drew)).trans hz5).trans hz6).trans hz7).trans hz8).trans hz9).trans hz10) HB3.out.1)
  have cf74 := blk3 (Ext.block ((((((((hz4.trans hx4).trans ((Ext.refl _).drew)).trans hz5).trans hz6).trans hz7).trans hz8).trans hz9).trans hz10) HB3.out.2)
  have cf75 := blk2 (Ext.block ((((((((Ext.refl _).drew).trans hz5).trans hz6).trans hz7).trans hz8).trans hz9).trans hz10) HB4.out.1)
  have cf76 := blk3 (Ext.block ((((((((Ext.refl _).drew).trans hz5).trans hz6).trans hz7).trans hz8).trans hz9).trans hz10) HB4.out.2)
  go_wp2_with fail
  refine HK.out _ _ hz10 ?_
  clear HK K
  refine blkStep (fun K HK => ?_)
  simp only [pick, List.filterMap_cons, List.filterMap_nil, List.getElem?_toArray, List.getElem?_cons_zero, List.getElem?_cons_succ]
  go_wp2_with fail
  refine HK.out _ _ ?_
  clear HK K
  refine oneStep (fun K HK => ?_)
  simp only [pick, List.filterMap_cons, List.filterMap_nil, List.getElem?_toArray, List.getElem?_cons_zero, List.getElem?_cons_succ]
  go_wp2_with fail
  refine (i_SegmentUsable t3 _ _ a3 _ now _ (rA3.ext (((((((((hx3.trans hz4).trans hx4).trans ((Ext.refl _).drew)).trans hz5).trans hz6).trans hz7).trans hz8).trans hz9).trans hz10)) (rL3.ext (((((((((hx3.trans hz4).trans hx4).trans ((Ext.refl _).drew)).trans hz5).trans hz6).trans hz7).trans hz8).trans hz9).trans hz10)) (rH3.ext (((((((((hx3.trans hz4).trans hx4).trans ((Ext.refl _).drew)).trans hz5).trans hz6).trans hz7).trans hz8).trans hz9).trans hz10)) (by omega)).mono ?_
  rintro e w11 ⟨rfl, hz11⟩
  try clear cf69
  try clear cf70
  try clear cf71
  try clear cf72
  try clear cf73
  try clear cf74
  try clear cf75
  try clear cf76
  have cf77 := blk2 (Ext.block (((((((((((((hz2.trans hx2).trans hz3).trans hx3).trans hz4).trans hx4).trans ((Ext.refl _).drew)).trans hz5).trans hz6).trans hz7).trans hz8).trans hz9).trans hz10).trans hz11) HB1.out.1)
  have cf78 := blk3 (Ext.block (((((((((((((hz2.trans hx2).trans hz3).trans hx3).trans hz4).trans hx4).trans ((Ext.refl _).drew)).trans hz5).trans hz6).trans hz7).trans hz8).trans hz9).trans hz10).trans hz11) HB1.out.2)
  have cf79 := blk2 (Ext.block (((((((((((hz3.trans hx3).trans hz4).trans hx4).trans ((Ext.refl _).drew)).trans hz5).trans hz6).trans hz7).trans hz8).trans hz9).trans hz10).trans hz11) HB2.out.1)
  have cf80 := blk3 (Ext.block (((((((((((hz3.trans hx3).trans hz4).trans hx4).trans ((Ext.refl _).drew)).trans hz5).trans hz6).trans hz7).trans hz8).trans hz9).trans hz10).trans hz11) HB2.out.2)
  have cf81 := blk2 (Ext.block (((((((((hz4.trans hx4).trans ((Ext.refl _).drew)).trans hz5).trans hz6).trans hz7).trans hz8).trans hz9).trans hz10).trans hz11) HB3.out.1)
  have cf82 := blk3 (Ext.block (((((((((hz4.trans hx4).trans ((Ext.refl _).drew)).trans hz5).trans hz6).trans hz7).trans hz8).trans hz9).trans hz10).trans hz11) HB3.out.2)
  have cf83 := blk2 (Ext.block (((((((((Ext.refl _).drew).trans hz5).trans hz6).trans hz7).trans hz8).trans hz9).trans hz10).trans hz11) HB4.out.1)
  have cf84 := blk3 (Ext.block (((((((((Ext.refl _).drew).trans hz5).trans hz6).trans hz7).trans hz8).trans hz9).trans hz10).trans hz11) HB4.out.2)
  go_wp2_with fail
  refine HK.out _ _ hz11 ?_
  clear HK K
  refine oneStep (fun K HK => ?_)
  simp only [pick, List.filterMap_cons, List.filterMap_nil, List.getElem?_toArray, List.getElem?_cons_zero, List.getElem?_cons_succ]
  go_wp2_with fail
  refine (s_SegmentUsable t3 _ _ a3 _ now _ (rA3.ext ((((((((((hx3.trans hz4).trans hx4).trans ((Ext.refl _).drew)).trans hz5).trans hz6).trans hz7).trans hz8).trans hz9).trans hz10).trans hz11)) (rL3.ext ((((((((((hx3.trans hz4).trans hx4).trans ((Ext.refl _).drew)).trans hz5).trans hz6).trans hz7).trans hz8).trans hz9).trans hz10).trans hz11)) (rH3.ext ((((((((((hx3.trans hz4).trans hx4).trans ((Ext.refl _).drew)).trans hz5).trans hz6).trans hz7).trans hz8).trans hz9).trans hz10).trans hz11)) (by omega)).mono ?_
  rintro e w12 ⟨rfl, hz12⟩
  try clear cf77
  try clear cf78
  try clear cf79
  try clear cf80
  try clear cf81
  try clear cf82
  try clear cf83
  try clear cf84
  have cf85 := blk2 (Ext.block ((((((((((((((hz2.trans hx2).trans hz3).trans hx3).trans hz4).trans hx4).trans ((Ext.refl _).drew)).trans hz5).trans hz6).trans hz7).trans hz8).trans hz9).trans hz10).trans hz11).trans hz12) HB1.out.1)
  have cf86 := blk3 (Ext.block ((((((((((((((hz2.trans hx2).trans hz3).trans hx3).trans hz4).trans hx4).trans ((Ext.refl _).drew)).trans hz5).trans hz6).trans hz7).trans hz8).trans hz9).trans hz10).trans hz11).trans hz12) HB1.out.2)
  have cf87 := blk2 (Ext.block ((((((((((((hz3.trans hx3).trans hz4).trans hx4).trans ((Ext.refl _).drew)).trans hz5).trans hz6).trans hz7).trans hz8).trans hz9).trans hz10).trans hz11).trans hz12) HB2.out.1)
  have cf88 := blk3 (Ext.block ((((((((((((hz3.trans hx3).trans hz4).trans hx4).trans ((Ext.refl _).drew)).trans hz5).trans hz6).trans hz7).trans hz8).trans hz9).trans hz10).trans hz11).trans hz12) HB2.out.2)
  have cf89 := blk2 (Ext.block ((((((((((hz4.trans hx4).trans ((Ext.refl _).drew)).trans hz5).trans hz6).trans hz7).trans hz8).trans hz9).trans hz10).trans hz11).trans hz12) HB3.out.1)
  have cf90 := blk3 (Ext.block ((((((((((hz4.trans hx4).trans ((Ext.refl _).drew)).trans hz5).trans hz6).trans hz7).trans hz8).trans hz9).trans hz10).trans hz11).trans hz12) HB3.out.2)
  have cf91 := blk2 (Ext.block ((((((((((Ext.refl _).drew).trans hz5).trans hz6).trans hz7).trans hz8).trans hz9).trans hz10).trans hz11).trans hz12) HB4.out.1)
  have cf92 := blk3 (Ext.block ((((((((((Ext.refl _).drew).trans hz5).trans hz6).trans hz7).trans hz8).trans hz9).trans hz10).trans hz11).trans hz12) HB4.out.2)
  go_wp2_with fail
  refine HK.out _ _ hz12 ?_
  clear HK K
  refine blkStep (fun K HK => ?_)
  simp only [pick, List.filterMap_cons, List.filterMap_nil, List.getElem?_toArray, List.getElem?_cons_zero, List.getElem?_cons_succ]
  go_wp2_with fail
  refine HK.out _ _ ?_
  clear HK K
  refine oneStep (fun K HK => ?_)
  simp only [pick, List.filterMap_cons, List.filterMap_nil, List.getElem?_toArray, List.getElem?_cons_zero, List.getElem?_cons_succ]
  go_wp2_with fail
  refine (i_AuthenticatedBy t4 _ _ a4 _ kk _ (rA4.ext (((((((((hx4.trans ((Ext.refl _).drew)).trans hz5).trans hz6).trans hz7).trans hz8).trans hz9).trans hz10).trans hz11).trans hz12)) (rH4.ext (((((((((hx4.trans ((Ext.refl _).drew)).trans hz5).trans hz6).trans hz7).trans hz8).trans hz9).trans hz10).trans hz11).trans hz12)) (by omega)).mono ?_
  rintro e w13 ⟨rfl, hz13⟩
  try clear cf85
  try clear cf86
  try clear cf87
  try clear cf88
  try clear cf89
  try clear cf90
  try clear cf91
  try clear cf92
  have cf93 := blk2 (Ext.block (((((((((((((((hz2.trans hx2).trans hz3).trans hx3).trans hz4).trans hx4).trans ((Ext.refl _).drew)).trans hz5).trans hz6).trans hz7).trans hz8).trans hz9).trans hz10).trans hz11).trans hz12).trans hz13) HB1.out.1)
  have cf94 := blk3 (Ext.block (((((((((((((((hz2.trans hx2).trans hz3).trans hx3).trans hz4).trans hx4).trans ((Ext.refl _).drew)).trans hz5).trans hz6).trans hz7).trans hz8).trans hz9).trans hz10).trans hz11).trans hz12).trans hz13) HB1.out.2)
  have cf95 := blk2 (Ext.block (((((((((((((hz3.trans hx3).trans hz4).trans hx4).trans ((Ext.refl _).drew)).trans hz5).trans hz6).trans hz7).trans hz8).trans hz9).trans hz10).trans hz11).trans hz12).trans hz13) HB2.out.1)
  have cf96 := blk3 (Ext.block (((((((((((((hz3.trans hx3).trans hz4).trans hx4).trans ((Ext.refl _).drew)).trans hz5).trans hz6).trans hz7).trans hz8).trans hz9).trans hz10).trans hz11).trans hz12).trans hz13) HB2.out.2)
  have cf97 := blk2 (Ext.block (((((((((((hz4.trans hx4).trans ((Ext.refl _).drew)).trans hz5).trans hz6).trans hz7).trans hz8).trans hz9).trans hz10).trans hz11).trans hz12).trans hz13) HB3.out.1)
  have cf98 := blk3 (Ext.block (((((((((((hz4.trans hx4).trans ((Ext.refl _).drew)).trans hz5).trans hz6).trans hz7).trans hz8).trans hz9).trans hz10).trans hz11).trans hz12).trans hz13) HB3.out.2)
  have cf99 := blk2 (Ext.block (((((((((((Ext.refl _).drew).trans hz5).trans hz6).trans hz7).trans hz8).trans hz9).trans hz10).trans hz11).trans hz12).trans hz13) HB4.out.1)
  have cf100 := blk3 (Ext.block (((((((((((Ext.refl _).drew).trans hz5).trans hz6).trans hz7).trans hz8).trans hz9).trans hz10).trans hz11).trans hz12).trans hz13) HB4.out.2)
  go_wp2_with fail
  refine HK.out _ _ hz13 ?_
  clear HK K
  refine oneStep (fun K HK => ?_)
  simp only [pick, List.filterMap_cons, List.filterMap_nil, List.getElem?_toArray, List.getElem?_cons_zero, List.getElem?_cons_succ]
  go_wp2_with fail
  refine (s_AuthenticatedBy t4 _ _ a4 _ kk _ (rA4.ext ((((((((((hx4.trans ((Ext.refl _).drew)).trans hz5).trans hz6).trans hz7).trans hz8).trans hz9).trans hz10).trans hz11).trans hz12).trans hz13)) (rH4.ext ((((((((((hx4.trans ((Ext.refl _).drew)).trans hz5).trans hz6).trans hz7).trans hz8).trans hz9).trans hz10).trans hz11).trans hz12).trans hz13)) (by omega)).mono ?_
  rintro e w14 ⟨rfl, hz14⟩
  try clear cf93
  try clear cf94
  try clear cf95
  try clear cf96
  try clear cf97
  try clear cf98
  try clear cf99
  try clear cf100
  have cf101 := blk2 (Ext.block ((((((((((((((((hz2.trans hx2).trans hz3).trans hx3).trans hz4).trans hx4).trans ((Ext.refl _).drew)).trans hz5).trans hz6).trans hz7).trans hz8).trans hz9).trans hz10).trans hz11).trans hz12).trans hz13).trans hz14) HB1.out.1)
  have cf102 := blk3 (Ext.block ((((((((((((((((hz2.trans hx2).trans hz3).trans hx3).trans hz4).trans hx4).trans ((Ext.refl _).drew)).trans hz5).trans hz6).trans hz7).trans hz8).trans hz9).trans hz10).trans hz11).trans hz12).trans hz13).trans hz14) HB1.out.2)
  have cf103 := blk2 (Ext.block ((((((((((((((hz3.trans hx3).trans hz4).trans hx4).trans ((Ext.refl _).drew)).trans hz5).trans hz6).trans hz7).trans hz8).trans hz9).trans hz10).trans hz11).trans hz12).trans hz13).trans hz14) HB2.out.1)
  have cf104 := blk3 (Ext.block ((((((((((((((hz3.trans hx3).trans hz4).trans hx4).trans ((Ext.refl _).drew)).trans hz5).trans hz6).trans hz7).trans hz8).trans hz9).trans hz10).trans hz11).trans hz12).trans hz13).trans hz14) HB2.out.2)
  have cf105 := blk2 (Ext.block ((((((((((((hz4.trans hx4).trans ((Ext.refl _).drew)).trans hz5).trans hz6).trans hz7).trans hz8).trans hz9).trans hz10).trans hz11).trans hz12).trans hz13).trans hz14) HB3.out.1)
  have cf106 := blk3 (Ext.block ((((((((((((hz4.trans hx4).trans ((Ext.refl _).drew)).trans hz5).trans hz6).trans hz7).trans hz8).trans hz9).trans hz10).trans hz11).trans hz12).trans hz13).trans hz14) HB3.out.2)
  have cf107 := blk2 (Ext.block ((((((((((((Ext.refl _).drew).trans hz5).trans hz6).trans hz7).trans hz8).trans hz9).trans hz10).trans hz11).trans hz12).trans hz13).trans hz14) HB4.out.1)
  have cf108 := blk3 (Ext.block ((((((((((((Ext.refl _).drew).trans hz5).trans hz6).trans hz7).trans hz8).trans hz9).trans hz10).trans hz11).trans hz12).trans hz13).trans hz14) HB4.out.2)
  go_wp2_with fail
  refine HK.out _ _ hz14 ?_
  clear HK K
  refine blkStep (fun K HK => ?_)
  simp only [pick, List.filterMap_cons, List.filterMap_nil, List.getElem?_toArray, List.getElem?_cons_zero, List.getElem?_cons_succ]
  go_wp2_with fail
  refine HK.out _ _ ?_
  clear HK K
  refine oneStep (fun K HK => ?_)
  simp only [pick, List.filterMap_cons, List.filterMap_nil, List.getElem?_toArray, List.getElem?_cons_zero, List.getElem?_cons_succ]
  go_wp2_with fail
  refine (i_StripMACs a4 _ _ (rH4.ext (((((((((((hx4.trans ((Ext.refl _).drew)).trans hz5).trans hz6).trans hz7).trans hz8).trans hz9).trans hz10).trans hz11).trans hz12).trans hz13).trans hz14)) (by omega)).mono ?_
  rintro e w15 ⟨vx, rfl, OX, hz15⟩
  try clear cf101
  try clear cf102
  try clear cf103
  try clear cf104
  try clear cf105
  try clear cf106
  try clear cf107
  try clear cf108
  have cf109 := blk2 (Ext.block (((((((((((((((((hz2.trans hx2).trans hz3).trans hx3).trans hz4).trans hx4).trans ((Ext.refl _).drew)).trans hz5).trans hz6).trans hz7).trans hz8).trans hz9).trans hz10).trans hz11).trans hz12).trans hz13).trans hz14).trans hz15) HB1.out.1)
  have cf110 := blk3 (Ext.block (((((((((((((((((hz2.trans hx2).trans hz3).trans hx3).trans hz4).trans hx4).trans ((Ext.refl _).drew)).trans hz5).trans hz6).trans hz7).trans hz8).trans hz9).trans hz10).trans hz11).trans hz12).trans hz13).trans hz14).trans hz15) HB1.out.2)
  have cf111 := blk2 (Ext.block (((((((((((((((hz3.trans hx3).trans hz4).trans hx4).trans ((Ext.refl _).drew)).trans hz5).trans hz6).trans hz7).trans hz8).trans hz9).trans hz10).trans hz11).trans hz12).trans hz13).trans hz14).trans hz15) HB2.out.1)
  have cf112 := blk3 (Ext.block (((((((((((((((hz3.trans hx3).trans hz4).trans hx4).trans ((Ext.refl _).drew)).trans hz5).trans hz6).trans hz7).trans hz8).trans hz9).trans hz10).trans hz11).trans hz12).trans hz13).trans hz14).trans hz15) HB2.out.2)
  have cf113 := blk2 (Ext.block (((((((((((((hz4.trans hx4).trans ((Ext.refl _).drew)).trans hz5).trans hz6).trans hz7).trans hz8).trans hz9).trans hz10).trans hz11).trans hz12).trans hz13).trans hz14).trans hz15) HB3.out.1)
  have cf114 := blk3 (Ext.block (((((((((((((hz4.trans hx4).trans ((Ext.refl _).drew)).trans hz5).trans hz6).trans hz7).trans hz8).trans hz9).trans hz10).trans hz11).trans hz12).trans hz13).trans hz14).trans hz15) HB3.out.2)
  have cf115 := blk2 (Ext.block (((((((((((((Ext.refl _).drew).trans hz5).trans hz6).trans hz7).trans hz8).trans hz9).trans hz10).trans hz11).trans hz12).trans hz13).trans hz14).trans hz15) HB4.out.1)
  have cf116 := blk3 (Ext.block (((((((((((((Ext.refl _).drew).trans hz5).trans hz6).trans hz7).trans hz8).trans hz9).trans hz10).trans hz11).trans hz12).trans hz13).trans hz14).trans hz15) HB4.out.2)
  go_wp2_with fail
  refine HK.out _ _ hz15 ?_
  clear HK K
  refine oneStep (fun K HK => ?_)
  simp only [pick, List.filterMap_cons, List.filterMap_nil, List.getElem?_toArray, List.getElem?_cons_zero, List.getElem?_cons_succ]
  go_wp2_with fail
  refine (s_StripMACs a4 _ _ (rH4.ext ((((((((((((hx4.trans ((Ext.refl _).drew)).trans hz5).trans hz6).trans hz7).trans hz8).trans hz9).trans hz10).trans hz11).trans hz12).trans hz13).trans hz14).trans hz15)) (by omega)).mono ?_
  rintro e w16 ⟨vy, rfl, OY, hz16⟩
  try clear cf109
  try clear cf110
  try clear cf111
  try clear cf112
  try clear cf113
  try clear cf114
  try clear cf115
  try clear cf116
  have cf117 := blk2 (Ext.block ((((((((((((((((((hz2.trans hx2).trans hz3).trans hx3).trans hz4).trans hx4).trans ((Ext.refl _).drew)).trans hz5).trans hz6).trans hz7).trans hz8).trans hz9).trans hz10).trans hz11).trans hz12).trans hz13).trans hz14).trans hz15).trans hz16) HB1.out.1)
  have cf118 := blk3 (Ext.block ((((((((((((((((((hz2.trans hx2).trans hz3).trans hx3).trans hz4).trans hx4).trans ((Ext.refl _).drew)).trans hz5).trans hz6).trans hz7).trans hz8).trans hz9).trans hz10).trans hz11).trans hz12).trans hz13).trans hz14).trans hz15).trans hz16) HB1.out.2)
  have cf119 := blk2 (Ext.block ((((((((((((((((hz3.trans hx3).trans hz4).trans hx4).trans ((Ext.refl _).drew)).trans hz5).trans hz6).trans hz7).trans hz8).trans hz9).trans hz10).trans hz11).trans hz12).trans hz13).trans hz14).trans hz15).trans hz16) HB2.out.1)
  have cf120 := blk3 (Ext.block ((((((((((((((((hz3.trans hx3).trans hz4).trans hx4).trans ((Ext.refl _).drew)).trans hz5).trans hz6).trans hz7).trans hz8).trans hz9).trans hz10).trans hz11).trans hz12).trans hz13).trans hz14).trans hz15).trans hz16) HB2.out.2)
  have cf121 := blk2 (Ext.block ((((((((((((((hz4.trans hx4).trans ((Ext.refl _).drew)).trans hz5).trans hz6).trans hz7).trans hz8).trans hz9).trans hz10).trans hz11).trans hz12).trans hz13).trans hz14).trans hz15).trans hz16) HB3.out.1)
  have cf122 := blk3 (Ext.block ((((((((((((((hz4.trans hx4).trans ((Ext.refl _).drew)).trans hz5).trans hz6).trans hz7).trans hz8).trans hz9).trans hz10).trans hz11).trans hz12).trans hz13).trans hz14).trans hz15).trans hz16) HB3.out.2)
  have cf123 := blk2 (Ext.block ((((((((((((((Ext.refl _).drew).trans hz5).trans hz6).trans hz7).trans hz8).trans hz9).trans hz10).trans hz11).trans hz12).trans hz13).trans hz14).trans hz15).trans hz16) HB4.out.1)
  have cf124 := blk3 (Ext.block ((((((((((((((Ext.refl _).drew).trans hz5).trans hz6).trans hz7).trans hz8).trans hz9).trans hz10).trans hz11).trans hz12).trans hz13).trans hz14).trans hz15).trans hz16) HB4.out.2)
  go_wp2_with fail
  refine HK.out _ _ hz16 ?_
  clear HK K
  refine oneStep (fun K HK => ?_)
  simp only [pick, List.filterMap_cons, List.filterMap_nil, List.getElem?_toArray, List.getElem?_cons_zero, List.getElem?_cons_succ]
  go_wp2_with fail
  refine (l_sameHopsT (strip a4.hops) _ _ _ ((OwnF.rd (hf := Hop.flen) OX).ext hz16) (OwnF.rd (hf := Hop.flen) OY)).mono ?_
  rintro e w17 ⟨rfl, hz17⟩
  try clear cf117
  try clear cf118
  try clear cf119
  try clear cf120
  try clear cf121
  try clear cf122
  try clear cf123
  try clear cf124
  have cf125 := blk2 (Ext.block (((((((((((((((((((hz2.trans hx2).trans hz3).trans hx3).trans hz4).trans hx4).trans ((Ext.refl _).drew)).trans hz5).trans hz6).trans hz7).trans hz8).trans hz9).trans hz10).trans hz11).trans hz12).trans hz13).trans hz14).trans hz15).trans hz16).trans hz17) HB1.out.1)
  have cf126 := blk3 (Ext.block (((((((((((((((((((hz2.trans hx2).trans hz3).trans hx3).trans hz4).trans hx4).trans ((Ext.refl _).drew)).trans hz5).trans hz6).trans hz7).trans hz8).trans hz9).trans hz10).trans hz11).trans hz12).trans hz13).trans hz14).trans hz15).trans hz16).trans hz17) HB1.out.2)
  have cf127 := blk2 (Ext.block (((((((((((((((((hz3.trans hx3).trans hz4).trans hx4).trans ((Ext.refl _).drew)).trans hz5).trans hz6).trans hz7).trans hz8).trans hz9).trans hz10).trans hz11).trans hz12).trans hz13).trans hz14).trans hz15).trans hz16).trans hz17) HB2.out.1)
  have cf128 := blk3 (Ext.block (((((((((((((((((hz3.trans hx3).trans hz4).trans hx4).trans ((Ext.refl _).drew)).trans hz5).trans hz6).trans hz7).trans hz8).trans hz9).trans hz10).trans hz11).trans hz12).trans hz13).trans hz14).trans hz15).trans hz16).trans hz17) HB2.out.2)
  have cf129 := blk2 (Ext.block (((((((((((((((hz4.trans hx4).trans ((Ext.refl _).drew)).trans hz5).trans hz6).trans hz7).trans hz8).trans hz9).trans hz10).trans hz11).trans hz12).trans hz13).trans hz14).trans hz15).trans hz16).trans hz17) HB3.out.1)
  have cf130 := blk3 (Ext.block (((((((((((((((hz4.trans hx4).trans ((Ext.refl _).drew)).trans hz5).trans hz6).trans hz7).trans hz8).trans hz9).trans hz10).trans hz11).trans hz12).trans hz13).trans hz14).trans hz15).trans hz16).trans hz17) HB3.out.2)
  have cf131 := blk2 (Ext.block (((((((((((((((Ext.refl _).drew).trans hz5).trans hz6).trans hz7).trans hz8).trans hz9).trans hz10).trans hz11).trans hz12).trans hz13).trans hz14).trans hz15).trans hz16).trans hz17) HB4.out.1)
  have cf132 := blk3 (Ext.block (((((((((((((((Ext.refl _).drew).trans hz5).trans hz6).trans hz7).trans hz8).trans hz9).trans hz10).trans hz11).trans hz12).trans hz13).trans hz14).trans hz15).trans hz16).trans hz17) HB4.out.2)
  go_wp2_with fail
  refine HK.out _ _ hz17 ?_
  clear HK K
  refine blkStep (fun K HK => ?_)
  simp only [pick, List.filterMap_cons, List.filterMap_nil, List.getElem?_toArray, List.getElem?_cons_zero, List.getElem?_cons_succ]
  go_wp2_with fail
  refine HK.out _ _ ?_
  clear HK K
  refine doneStep (by kernel_rfl) ?_
  clear OX OY hE0 hE1 hE2 hE3 hE4
  go_wp2_with fail
  try clear cf125
  try clear cf126
  try clear cf127
  try clear cf128
  try clear cf129
  try clear cf130
  try clear cf131
  try clear cf132
  obtain ⟨WL, hWL⟩ : ∃ WL : World, WL = w17 := ⟨_, rfl⟩
  rw [← hWL]
  have HXL := Lib.hid (show Ext w WL by rw [hWL]; exact (((((((((((((((((((((hz1.trans hx1).trans hz2).trans hx2).trans hz3).trans hx3).trans hz4).trans hx4).trans ((Ext.refl _).drew)).trans hz5).trans hz6).trans hz7).trans hz8).trans hz9).trans hz10).trans hz11).trans hz12).trans hz13).trans hz14).trans hz15).trans hz16).trans hz17))
  have rA := (rA1.ext ((((((((((((((((((((hx1.trans hz2).trans hx2).trans hz3).trans hx3).trans hz4).trans hx4).trans ((Ext.refl _).drew)).trans hz5).trans hz6).trans hz7).trans hz8).trans hz9).trans hz10).trans hz11).trans hz12).trans hz13).trans hz14).trans hz15).trans hz16).trans hz17))
  have rL := (rL1.ext ((((((((((((((((((((hx1.trans hz2).trans hx2).trans hz3).trans hx3).trans hz4).trans hx4).trans ((Ext.refl _).drew)).trans hz5).trans hz6).trans hz7).trans hz8).trans hz9).trans hz10).trans hz11).trans hz12).trans hz13).trans hz14).trans hz15).trans hz16).trans hz17))
  have rH := (rH1.ext ((((((((((((((((((((hx1.trans hz2).trans hx2).trans hz3).trans hx3).trans hz4).trans hx4).trans ((Ext.refl _).drew)).trans hz5).trans hz6).trans hz7).trans hz8).trans hz9).trans hz10).trans hz11).trans hz12).trans hz13).trans hz14).trans hz15).trans hz16).trans hz17))
  have hcode := (hr.ext (((((((((((((((((((((hz1.trans hx1).trans hz2).trans hx2).trans hz3).trans hx3).trans hz4).trans hx4).trans ((Ext.refl _).drew)).trans hz5).trans hz6).trans hz7).trans hz8).trans hz9).trans hz10).trans hz11).trans hz12).trans hz13).trans hz14).trans hz15).trans hz16).trans hz17))
  have B3 := (Ext.block (((((((((((((((((((hz2.trans hx2).trans hz3).trans hx3).trans hz4).trans hx4).trans ((Ext.refl _).drew)).trans hz5).trans hz6).trans hz7).trans hz8).trans hz9).trans hz10).trans hz11).trans hz12).trans hz13).trans hz14).trans hz15).trans hz16).trans hz17) HB1.out.1)
  have B4 := (Ext.block (((((((((((((((((((hz2.trans hx2).trans hz3).trans hx3).trans hz4).trans hx4).trans ((Ext.refl _).drew)).trans hz5).trans hz6).trans hz7).trans hz8).trans hz9).trans hz10).trans hz11).trans hz12).trans hz13).trans hz14).trans hz15).trans hz16).trans hz17) HB1.out.2)
  rw [← hWL] at rA rL rH hcode B3 B4
  obtain ⟨b3, hb3⟩ : ∃ b, b = w1.heap.size := ⟨_, rfl⟩
  have HB := Lib.hid (And.intro B3 B4)
  clear hWL B3 B4 hb3
  obtain ⟨EH⟩ := elemHop
  go_loopg [13] a1.hops.length (fun gk i wr => ∃ k : Nat, gk + k = a1.hops.length ∧ i = .int .i64 k ∧ Ext WL wr)
  case atStart => exact ⟨0, by omega, rfl, Ext.refl _⟩
  case round =>
    obtain ⟨k, hgk, rfl, hx⟩ := hrel
    have HGK := Lib.hid hgk
    clear hgk
    have hkl : k ≤ a1.hops.length := by have h1 := HGK.out; omega
    by_cases hlt : k < a1.hops.length
    · have h4 : (k : Int) < (a1.hops.length : Int) := by omega
      obtain ⟨hm0, hvh⟩ := ver_mac (SD.ver TK1 k hlt)
      unfold validHop at hvh
      simp only [Bool.and_eq_true] at hvh
      obtain ⟨he0, he1⟩ := inR_true.1 hvh.1.2
      obtain ⟨hr0, hr1⟩ := inR_true.1 hvh.2
      clear hm0 hvh
      have cs := blk3 (hx.block HB.out.2)
      go_upto_region 12 with (fail)
      clear cs
      go_cut [14] (fun p wx => ∃ (b : Nat) (v : Value), p = .pointer (some ⟨b, 0, none⟩) ∧ wx.heap[b]? = some (.cells #[.int .i64 a1.ts, .int .i64 a1.beta, v] 62 (0, 0)) ∧ OwnF Hop.f 5 WL.heap.size 73 wx v a1.hops ∧ WL.heap.size ≤ b ∧ wr.heap.size ≤ b ∧ (∀ q, v.ownBlock = some q → wr.heap.size ≤ q) ∧ Ext wr wx)
      case first =>
        have hxc : Ext wr wr.drew := (Ext.refl _).drew
        refine planStep (.blk [0, 1, 2, 3, 5, 6] (.two 4 9 (.two 7 9 (.blk [8] (.one 9 (.one 10 .done))) (.one 7 (.blk [8] (.one 10 .done)))) (.one 4 (.one 7 (.blk [8] (.one 10 .done)))))) [10] (by kernel_rfl) (by kernel_rfl) ?_
        generalize wr.drew = wd at hxc ⊢
        have cs := blk3 ((hx.trans hxc).block HB.out.2)
        refine blkStep (fun K HK => ?_)
        simp only [pick, List.filterMap_cons, List.filterMap_nil, List.getElem?_toArray, List.getElem?_cons_zero, List.getElem?_cons_succ]
        go_wp2_with fail
        refine HK.out _ _ ?_
        clear HK K
        clear cs
        refine twoStep ?_ ?_
        · refine oneStep (fun K HK => ?_)
          simp only [pick, List.filterMap_cons, List.filterMap_nil, List.getElem?_toArray, List.getElem?_cons_zero, List.getElem?_cons_succ]
          go_wp2_with fail
          refine HK.out _ _ ((Ext.refl _).alloc _) ?_
          clear HK K
          have hsz := hxc.size
          have hwl := (hx.trans hxc).size
          have hxn : Ext wd (wd.alloc (.cells #[] 73)) := (Ext.refl _).alloc _
          replace hxc := hxc.trans hxn
          have ho := OwnF.empty Hop.f 5 wr.heap.size 73 wd hsz
          obtain ⟨ge, hge⟩ : ∃ g, g = wd.heap.size := ⟨_, rfl⟩
          rw [← hge] at ho ⊢
          generalize wd.alloc (.cells #[] 73) = we at hxc ho ⊢
          clear hsz hwl hxn hge
          refine twoStep ?_ ?_
          · refine oneStep (fun K HK => ?_)
            simp only [pick, List.filterMap_cons, List.filterMap_nil, List.getElem?_toArray, List.getElem?_cons_zero, List.getElem?_cons_succ]
            refine appE (g := ge) EH Hop.flen Hop.one rfl _ _ rfl a1.hops rfl ho rfl (rH.ext (hx.trans hxc)) (by omega) (by unfold maxLen; omega) hxc.size ?_
            intro v2 w2 oq hz2
            go_wp2_with fail
            refine HK.out _ _ hz2 ?_
            clear HK K ho
            have ho := oq
            clear oq
            replace hxc := hxc.trans hz2
            clear hz2
            obtain ⟨oq, cq, rfl, _⟩ := (OwnF.rd (hf := Hop.flen) ho).shape
            refine blkStep (fun K HK => ?_)
            simp only [pick, List.filterMap_cons, List.filterMap_nil, List.getElem?_toArray, List.getElem?_cons_zero, List.getElem?_cons_succ]
            go_wp2_with fail
            refine HK.out _ _ ?_
            clear HK K
            refine oneStep (fun K HK => ?_)
            simp only [pick, List.filterMap_cons, List.filterMap_nil, List.getElem?_toArray, List.getElem?_cons_zero, List.getElem?_cons_succ]
            go_wp2_with fail
            refine HK.out _ _ ((Ext.refl _).alloc _) ?_
            clear HK K
            have hsz := hxc.size
            have hwl := (hx.trans hxc).size
            have hxn : Ext w2 (w2.alloc (.cells #[.int .i64 0, .int .i64 0, .slice none 0 0] 62)) := (Ext.refl _).alloc _
            replace ho := ho.ext hxn
            replace hxc := hxc.trans hxn
            have B14 := blk_new w2 (.cells #[.int .i64 0, .int .i64 0, .slice none 0 0] 62)
            obtain ⟨b14, hb14⟩ : ∃ b, b = w2.heap.size := ⟨_, rfl⟩
            rw [← hb14] at B14 hsz hwl ⊢
            have hbz := hsz
            have hbl := hwl
            generalize w2.alloc (.cells #[.int .i64 0, .int .i64 0, .slice none 0 0] 62) = wz at hxc B14 ho ⊢
            clear hsz hwl hxn hb14
            obtain ⟨wS, hwS, hbS, hcS⟩ := three_set B14 (.int .i64 a1.ts) (.int .i64 a1.beta) (.slice oq a1.hops.length cq)
            have HWS := Lib.hid hwS
            clear hwS
            have cR := blk3 B14
            have ff0 := fr_of B14 0
            have ff1 := fr_of B14 1
            have ff2 := fr_of B14 2
            refine badStep (by kernel_rfl) (fun K HK => ?_)
            simp only [pick, List.filterMap_cons, List.filterMap_nil, List.getElem?_toArray, List.getElem?_cons_zero, List.getElem?_cons_succ]
            go_wp2_with fail
            refine HK.out _ _ ?_
            clear HK K cR ff0 ff1 ff2
            rw [← HWS.out]
            refine doneStep (by kernel_rfl) ?_
            go_wp2_with fail
            go_meet
            exact ⟨b14, _, rfl, hbS, (ho.chg hcS (fun q hq e => ho.ne B14 (by decide) (by rw [hq]; exact congrArg some e))).mono (hx.size), hbl, hbz, fun q hq => (ho.block q hq).1, hxc.chg hcS (fun i hi => by have h1 : i = b14 := hi; omega)⟩
          · refine oneStep (fun K HK => ?_)
            simp only [pick, List.filterMap_cons, List.filterMap_nil, List.getElem?_toArray, List.getElem?_cons_zero, List.getElem?_cons_succ]
            go_wp2_with fail
            refine HK.out _ _ ((Ext.refl _).alloc _) ?_
            clear HK K
            have hsz := hxc.size
            have hwl := (hx.trans hxc).size
            have hxn : Ext we (we.alloc (.cells #[.int .i64 0, .int .i64 0, .slice none 0 0] 62)) := (Ext.refl _).alloc _
            replace ho := ho.ext hxn
            replace hxc := hxc.trans hxn
            have B14 := blk_new we (.cells #[.int .i64 0, .int .i64 0, .slice none 0 0] 62)
            obtain ⟨b14, hb14⟩ : ∃ b, b = we.heap.size := ⟨_, rfl⟩
            rw [← hb14] at B14 hsz hwl ⊢
            have hbz := hsz
            have hbl := hwl
            generalize we.alloc (.cells #[.int .i64 0, .int .i64 0, .slice none 0 0] 62) = wz at hxc B14 ho ⊢
            clear hsz hwl hxn hb14
            refine oneStep (fun K HK => ?_)
            simp only [pick, List.filterMap_cons, List.filterMap_nil, List.getElem?_toArray, List.getElem?_cons_zero, List.getElem?_cons_succ]
            refine appE (g := ge) EH Hop.flen Hop.one rfl _ _ rfl a1.hops rfl ho rfl (rH.ext (hx.trans hxc)) (by omega) (by unfold maxLen; omega) hxc.size ?_
            intro v2 w2 oq hz2
            go_wp2_with fail
            refine HK.out _ _ hz2 ?_
            clear HK K ho
            have ho := oq
            clear oq
            replace hxc := hxc.trans hz2
            replace B14 := hz2.block B14
            clear hz2
            obtain ⟨oq, cq, rfl, _⟩ := (OwnF.rd (hf := Hop.flen) ho).shape
            refine blkStep (fun K HK => ?_)
            simp only [pick, List.filterMap_cons, List.filterMap_nil, List.getElem?_toArray, List.getElem?_cons_zero, List.getElem?_cons_succ]
            go_wp2_with fail
            refine HK.out _ _ ?_
            clear HK K
            obtain ⟨wS, hwS, hbS, hcS⟩ := three_set B14 (.int .i64 a1.ts) (.int .i64 a1.beta) (.slice oq a1.hops.length cq)
            have HWS := Lib.hid hwS
            clear hwS
            have cR := blk3 B14
            have ff0 := fr_of B14 0
            have ff1 := fr_of B14 1
            have ff2 := fr_of B14 2
            refine badStep (by kernel_rfl) (fun K HK => ?_)
            simp only [pick, List.filterMap_cons, List.filterMap_nil, List.getElem?_toArray, List.getElem?_cons_zero, List.getElem?_cons_succ]
            go_wp2_with fail
            refine HK.out _ _ ?_
            clear HK K cR ff0 ff1 ff2
            rw [← HWS.out]
            refine doneStep (by kernel_rfl) ?_
            go_wp2_with fail
            go_meet
            exact ⟨b14, _, rfl, hbS, (ho.chg hcS (fun q hq e => ho.ne B14 (by decide) (by rw [hq]; exact congrArg some e))).mono (hx.size), hbl, hbz, fun q hq => (ho.block q hq).1, hxc.chg hcS (fun i hi => by have h1 : i = b14 := hi; omega)⟩
        · refine oneStep (fun K HK => ?_)
          simp only [pick, List.filterMap_cons, List.filterMap_nil, List.getElem?_toArray, List.getElem?_cons_zero, List.getElem?_cons_succ]
          go_wp2_with fail
          refine HK.out _ _ ((Ext.refl _).alloc _) ?_
          clear HK K
          have hsz := hxc.size
          have hwl := (hx.trans hxc).size
          have hxn : Ext wd (wd.alloc (.cells #[.int .i64 0, .int .i64 0, .slice none 0 0] 62)) := (Ext.refl _).alloc _
          replace hxc := hxc.trans hxn
          have B14 := blk_new wd (.cells #[.int .i64 0, .int .i64 0, .slice none 0 0] 62)
          obtain ⟨b14, hb14⟩ : ∃ b, b = wd.heap.size := ⟨_, rfl⟩
          rw [← hb14] at B14 hsz hwl ⊢
          have hbz := hsz
          have hbl := hwl
          generalize wd.alloc (.cells #[.int .i64 0, .int .i64 0, .slice none 0 0] 62) = wz at hxc B14 ⊢
          clear hsz hwl hxn hb14
          refine oneStep (fun K HK => ?_)
          simp only [pick, List.filterMap_cons, List.filterMap_nil, List.getElem?_toArray, List.getElem?_cons_zero, List.getElem?_cons_succ]
          go_wp2_with fail
          refine HK.out _ _ ((Ext.refl _).alloc _) ?_
          clear HK K
          have hsz := hxc.size
          have hwl := (hx.trans hxc).size
          have hxn : Ext wz (wz.alloc (.cells #[] 73)) := (Ext.refl _).alloc _
          replace B14 := hxn.block B14
          replace hxc := hxc.trans hxn
          have ho := OwnF.empty Hop.f 5 wr.heap.size 73 wz hsz
          obtain ⟨ge, hge⟩ : ∃ g, g = wz.heap.size := ⟨_, rfl⟩
          rw [← hge] at ho ⊢
          generalize wz.alloc (.cells #[] 73) = we at hxc B14 ho ⊢
          clear hsz hwl hxn hge
          refine oneStep (fun K HK => ?_)
          simp only [pick, List.filterMap_cons, List.filterMap_nil, List.getElem?_toArray, List.getElem?_cons_zero, List.getElem?_cons_succ]
          refine appE (g := ge) EH Hop.flen Hop.one rfl _ _ rfl a1.hops rfl ho rfl (rH.ext (hx.trans hxc)) (by omega) (by unfold maxLen; omega) hxc.size ?_
          intro v2 w2 oq hz2
          go_wp2_with fail
          refine HK.out _ _ hz2 ?_
          clear HK K ho
          have ho := oq
          clear oq
          replace hxc := hxc.trans hz2
          replace B14 := hz2.block B14
          clear hz2
          obtain ⟨oq, cq, rfl, _⟩ := (OwnF.rd (hf := Hop.flen) ho).shape
          refine blkStep (fun K HK => ?_)
          simp only [pick, List.filterMap_cons, List.filterMap_nil, List.getElem?_toArray, List.getElem?_cons_zero, List.getElem?_cons_succ]
          go_wp2_with fail
          refine HK.out _ _ ?_
          clear HK K
          obtain ⟨wS, hwS, hbS, hcS⟩ := three_set B14 (.int .i64 a1.ts) (.int .i64 a1.beta) (.slice oq a1.hops.length cq)
          have HWS := Lib.hid hwS
          clear hwS
          have cR := blk3 B14
          have ff0 := fr_of B14 0
          have ff1 := fr_of B14 1
          have ff2 := fr_of B14 2
          refine badStep (by kernel_rfl) (fun K HK => ?_)
          simp only [pick, List.filterMap_cons, List.filterMap_nil, List.getElem?_toArray, List.getElem?_cons_zero, List.getElem?_cons_succ]
          go_wp2_with fail
          refine HK.out _ _ ?_
          clear HK K cR ff0 ff1 ff2
          rw [← HWS.out]
          refine doneStep (by kernel_rfl) ?_
          go_wp2_with fail
          go_meet
          exact ⟨b14, _, rfl, hbS, (ho.chg hcS (fun q hq e => ho.ne B14 (by decide) (by rw [hq]; exact congrArg some e))).mono (hx.size), hbl, hbz, fun q hq => (ho.block q hq).1, hxc.chg hcS (fun i hi => by have h1 : i = b14 := hi; omega)⟩
      case rest =>
        obtain ⟨bx, vx, rfl, Bx, Rx, hbx, hbx2, hqx, hxx⟩ := hcut
        obtain ⟨wx, hwc⟩ : ∃ wA : World, wA = wc := ⟨_, rfl⟩
        subst hwc
        obtain ⟨gx, cx, rfl, _, _⟩ := Rx.some_shape (by omega)
        have hqx2 := hqx gx rfl
        clear hqx
        have cX := blk3 Bx
        have ck := Hop.own_at Rx k hlt
        go_upto_region 15 with (fail)
        clear cX ck
        have hxa : Ext wx (wx.alloc (.cells #[.int .i64 a1.hops[k].asn, .int .i64 a1.hops[k].ing, .int .i64 a1.hops[k].eg, .int .i64 (a1.hops[k].exp + 1), .int .i64 a1.hops[k].mac] 73)) := (Ext.refl _).alloc _
        have B15 := blk_new wx (.cells #[.int .i64 a1.hops[k].asn, .int .i64 a1.hops[k].ing, .int .i64 a1.hops[k].eg, .int .i64 (a1.hops[k].exp + 1), .int .i64 a1.hops[k].mac] 73)
        replace Bx := hxa.block Bx
        replace Rx := Rx.ext hxa
        replace hxx := hxx.trans hxa
        generalize wx.alloc (.cells #[.int .i64 a1.hops[k].asn, .int .i64 a1.hops[k].ing, .int .i64 a1.hops[k].eg, .int .i64 (a1.hops[k].exp + 1), .int .i64 a1.hops[k].mac] 73) = wh at Bx Rx hxx B15 ⊢
        obtain ⟨hn, hgn⟩ := Hop.own_set Rx k hlt ⟨a1.hops[k].asn, a1.hops[k].ing, a1.hops[k].eg, (a1.hops[k].exp + 1), a1.hops[k].mac⟩
        obtain ⟨wn, hwn⟩ : ∃ wn : World, wn = (((((wh.setCell ⟨gx, k * 5, none⟩ (.int .i64 a1.hops[k].asn)).setCell ⟨gx, k * 5 + 1, none⟩ (.int .i64 a1.hops[k].ing)).setCell ⟨gx, k * 5 + 2, none⟩ (.int .i64 a1.hops[k].eg)).setCell ⟨gx, k * 5 + 3, none⟩ (.int .i64 (a1.hops[k].exp + 1))).setCell ⟨gx, k * 5 + 4, none⟩ (.int .i64 a1.hops[k].mac)) := ⟨_, rfl⟩
        have HWN := Lib.hid hwn
        rw [← hwn] at hn hgn
        clear hwn
        have ck := Hop.own_at Rx k hlt
        have fk0 := Rx.free (k * 5)
        have fk1 := Rx.free (k * 5 + 1)
        have fk2 := Rx.free (k * 5 + 2)
        have fk3 := Rx.free (k * 5 + 3)
        have fk4 := Rx.free (k * 5 + 4)
        have cB := blk3 Bx
        have cH := blk5 B15
        have cs := blk3 ((hx.trans hxx).block HB.out.2)
        go_upto_region 16 with (fail)
        rw [← HWN.out]
        clear ck fk0 fk1 fk2 fk3 fk4 cB cH cs HWN
        have hSn : Chg (fun b => b = gx) wh wn := Chg.ofGrown hgn (fun b h => by cases h; rfl)
        replace Bx := hSn.blkS Bx (fun e => Rx.ne Bx (by decide) (by rw [e]; rfl))
        have hxn := hxx.grown hgn (fun q hq => by cases hq; exact hqx2)
        replace Rx := hn
        have GXN := Lib.hid (Rx.block gx rfl).2
        clear hn hgn hSn hxx B15
        go_cut [16] (fun p wx => ∃ (b : Nat) (v : Value), p = .pointer (some ⟨b, 0, none⟩) ∧ wx.heap[b]? = some (.cells #[.int .i64 a1.ts, .int .i64 a1.beta, v] 62 (0, 0)) ∧ OwnF Hop.f 5 WL.heap.size 73 wx v a1.hops ∧ WL.heap.size ≤ b ∧ wn.heap.size ≤ b ∧ (∀ q, v.ownBlock = some q → wn.heap.size ≤ q) ∧ Ext wn wx)
        case first =>
          have hxc : Ext wn wn.drew := (Ext.refl _).drew
          refine planStep (.blk [0, 1, 2, 3, 5, 6] (.two 4 9 (.two 7 9 (.blk [8] (.one 9 (.one 10 .done))) (.one 7 (.blk [8] (.one 10 .done)))) (.one 4 (.one 7 (.blk [8] (.one 10 .done)))))) [10] (by kernel_rfl) (by kernel_rfl) ?_
          generalize wn.drew = wd at hxc ⊢
          have cs := blk3 (((hx.trans hxn).trans hxc).block HB.out.2)
          refine blkStep (fun K HK => ?_)
          simp only [pick, List.filterMap_cons, List.filterMap_nil, List.getElem?_toArray, List.getElem?_cons_zero, List.getElem?_cons_succ]
          go_wp2_with fail
          refine HK.out _ _ ?_
          clear HK K
          clear cs
          refine twoStep ?_ ?_
          · refine oneStep (fun K HK => ?_)
            simp only [pick, List.filterMap_cons, List.filterMap_nil, List.getElem?_toArray, List.getElem?_cons_zero, List.getElem?_cons_succ]
            go_wp2_with fail
            refine HK.out _ _ ((Ext.refl _).alloc _) ?_
            clear HK K
            have hsz := hxc.size
            have hwl := ((hx.trans hxn).trans hxc).size
            have hxn : Ext wd (wd.alloc (.cells #[] 73)) := (Ext.refl _).alloc _
            replace hxc := hxc.trans hxn
            have ho := OwnF.empty Hop.f 5 wn.heap.size 73 wd hsz
            obtain ⟨ge, hge⟩ : ∃ g, g = wd.heap.size := ⟨_, rfl⟩
            rw [← hge] at ho ⊢
            generalize wd.alloc (.cells #[] 73) = we at hxc ho ⊢
            clear hsz hwl hxn hge
            refine twoStep ?_ ?_
            · refine oneStep (fun K HK => ?_)
              simp only [pick, List.filterMap_cons, List.filterMap_nil, List.getElem?_toArray, List.getElem?_cons_zero, List.getElem?_cons_succ]
              refine appE (g := ge) EH Hop.flen Hop.one rfl _ _ rfl a1.hops rfl ho rfl (rH.ext ((hx.trans hxn).trans hxc)) (by omega) (by unfold maxLen; omega) hxc.size ?_
              intro v2 w2 oq hz2
              go_wp2_with fail
              refine HK.out _ _ hz2 ?_
              clear HK K ho
              have ho := oq
              clear oq
              replace hxc := hxc.trans hz2
              clear hz2
              obtain ⟨oq, cq, rfl, _⟩ := (OwnF.rd (hf := Hop.flen) ho).shape
              refine blkStep (fun K HK => ?_)
              simp only [pick, List.filterMap_cons, List.filterMap_nil, List.getElem?_toArray, List.getElem?_cons_zero, List.getElem?_cons_succ]
              go_wp2_with fail
              refine HK.out _ _ ?_
              clear HK K
              refine oneStep (fun K HK => ?_)
              simp only [pick, List.filterMap_cons, List.filterMap_nil, List.getElem?_toArray, List.getElem?_cons_zero, List.getElem?_cons_succ]
              go_wp2_with fail
              refine HK.out _ _ ((Ext.refl _).alloc _) ?_
              clear HK K
              have hsz := hxc.size
              have hwl := ((hx.trans hxn).trans hxc).size
              have hxn : Ext w2 (w2.alloc (.cells #[.int .i64 0, .int .i64 0, .slice none 0 0] 62)) := (Ext.refl _).alloc _
              replace ho := ho.ext hxn
              replace hxc := hxc.trans hxn
              have B14 := blk_new w2 (.cells #[.int .i64 0, .int .i64 0, .slice none 0 0] 62)
              obtain ⟨b14, hb14⟩ : ∃ b, b = w2.heap.size := ⟨_, rfl⟩
              rw [← hb14] at B14 hsz hwl ⊢
              have hbz := hsz
              have hbl := hwl
              generalize w2.alloc (.cells #[.int .i64 0, .int .i64 0, .slice none 0 0] 62) = wz at hxc B14 ho ⊢
              clear hsz hwl hxn hb14
              obtain ⟨wS, hwS, hbS, hcS⟩ := three_set B14 (.int .i64 a1.ts) (.int .i64 a1.beta) (.slice oq a1.hops.length cq)
              have HWS := Lib.hid hwS
              clear hwS
              have cR := blk3 B14
              have ff0 := fr_of B14 0
              have ff1 := fr_of B14 1
              have ff2 := fr_of B14 2
              refine badStep (by kernel_rfl) (fun K HK => ?_)
              simp only [pick, List.filterMap_cons, List.filterMap_nil, List.getElem?_toArray, List.getElem?_cons_zero, List.getElem?_cons_succ]
              go_wp2_with fail
              refine HK.out _ _ ?_
              clear HK K cR ff0 ff1 ff2
              rw [← HWS.out]
              refine doneStep (by kernel_rfl) ?_
              go_wp2_with fail
              go_meet
              exact ⟨b14, _, rfl, hbS, (ho.chg hcS (fun q hq e => ho.ne B14 (by decide) (by rw [hq]; exact congrArg some e))).mono ((hx.trans hxn).size), hbl, hbz, fun q hq => (ho.block q hq).1, hxc.chg hcS (fun i hi => by have h1 : i = b14 := hi; omega)⟩
            · refine oneStep (fun K HK => ?_)
              simp only [pick, List.filterMap_cons, List.filterMap_nil, List.getElem?_toArray, List.getElem?_cons_zero, List.getElem?_cons_succ]
              go_wp2_with fail
              refine HK.out _ _ ((Ext.refl _).alloc _) ?_
              clear HK K
              have hsz := hxc.size
              have hwl := ((hx.trans hxn).trans hxc).size
              have hxn : Ext we (we.alloc (.cells #[.int .i64 0, .int .i64 0, .slice none 0 0] 62)) := (Ext.refl _).alloc _
              replace ho := ho.ext hxn
              replace hxc := hxc.trans hxn
              have B14 := blk_new we (.cells #[.int .i64 0, .int .i64 0, .slice none 0 0] 62)
              obtain ⟨b14, hb14⟩ : ∃ b, b = we.heap.size := ⟨_, rfl⟩
              rw [← hb14] at B14 hsz hwl ⊢
              have hbz := hsz
              have hbl := hwl
              generalize we.alloc (.cells #[.int .i64 0, .int .i64 0, .slice none 0 0] 62) = wz at hxc B14 ho ⊢
              clear hsz hwl hxn hb14
              refine oneStep (fun K HK => ?_)
              simp only [pick, List.filterMap_cons, List.filterMap_nil, List.getElem?_toArray, List.getElem?_cons_zero, List.getElem?_cons_succ]
              refine appE (g := ge) EH Hop.flen Hop.one rfl _ _ rfl a1.hops rfl ho rfl (rH.ext ((hx.trans hxn).trans hxc)) (by omega) (by unfold maxLen; omega) hxc.size ?_
              intro v2 w2 oq hz2
              go_wp2_with fail
              refine HK.out _ _ hz2 ?_
              clear HK K ho
              have ho := oq
              clear oq
              replace hxc := hxc.trans hz2
              replace B14 := hz2.block B14
              clear hz2
              obtain ⟨oq, cq, rfl, _⟩ := (OwnF.rd (hf := Hop.flen) ho).shape
              refine blkStep (fun K HK => ?_)
              simp only [pick, List.filterMap_cons, List.filterMap_nil, List.getElem?_toArray, List.getElem?_cons_zero, List.getElem?_cons_succ]
              go_wp2_with fail
              refine HK.out _ _ ?_
              clear HK K
              obtain ⟨wS, hwS, hbS, hcS⟩ := three_set B14 (.int .i64 a1.ts) (.int .i64 a1.beta) (.slice oq a1.hops.length cq)
              have HWS := Lib.hid hwS
              clear hwS
              have cR := blk3 B14
              have ff0 := fr_of B14 0
              have ff1 := fr_of B14 1
              have ff2 := fr_of B14 2
              refine badStep (by kernel_rfl) (fun K HK => ?_)
              simp only [pick, List.filterMap_cons, List.filterMap_nil, List.getElem?_toArray, List.getElem?_cons_zero, List.getElem?_cons_succ]
              go_wp2_with fail
              refine HK.out _ _ ?_
              clear HK K cR ff0 ff1 ff2
              rw [← HWS.out]
              refine doneStep (by kernel_rfl) ?_
              go_wp2_with fail
              go_meet
              exact ⟨b14, _, rfl, hbS, (ho.chg hcS (fun q hq e => ho.ne B14 (by decide) (by rw [hq]; exact congrArg some e))).mono ((hx.trans hxn).size), hbl, hbz, fun q hq => (ho.block q hq).1, hxc.chg hcS (fun i hi => by have h1 : i = b14 := hi; omega)⟩
          · refine oneStep (fun K HK => ?_)
            simp only [pick, List.filterMap_cons, List.filterMap_nil, List.getElem?_toArray, List.getElem?_cons_zero, List.getElem?_cons_succ]
            go_wp2_with fail
            refine HK.out _ _ ((Ext.refl _).alloc _) ?_
            clear HK K
            have hsz := hxc.size
            have hwl := ((hx.trans hxn).trans hxc).size
            have hxn : Ext wd (wd.alloc (.cells #[.int .i64 0, .int .i64 0, .slice none 0 0] 62)) := (Ext.refl _).alloc _
            replace hxc := hxc.trans hxn
            have B14 := blk_new wd (.cells #[.int .i64 0, .int .i64 0, .slice none 0 0] 62)
            obtain ⟨b14, hb14⟩ : ∃ b, b = wd.heap.size := ⟨_, rfl⟩
            rw [← hb14] at B14 hsz hwl ⊢
            have hbz := hsz
            have hbl := hwl
            generalize wd.alloc (.cells #[.int .i64 0, .int .i64 0, .slice none 0 0] 62) = wz at hxc B14 ⊢
            clear hsz hwl hxn hb14
            refine oneStep (fun K HK => ?_)
            simp only [pick, List.filterMap_cons, List.filterMap_nil, List.getElem?_toArray, List.getElem?_cons_zero, List.getElem?_cons_succ]
            go_wp2_with fail
            refine HK.out _ _ ((Ext.refl _).alloc _) ?_
            clear HK K
            have hsz := hxc.size
            have hwl := ((hx.trans hxn).trans hxc).size
            have hxn : Ext wz (wz.alloc (.cells #[] 73)) := (Ext.refl _).alloc _
            replace B14 := hxn.block B14
            replace hxc := hxc.trans hxn
            have ho := OwnF.empty Hop.f 5 wn.heap.size 73 wz hsz
            obtain ⟨ge, hge⟩ : ∃ g, g = wz.heap.size := ⟨_, rfl⟩
            rw [← hge] at ho ⊢
            generalize wz.alloc (.cells #[] 73) = we at hxc B14 ho ⊢
            clear hsz hwl hxn hge
            refine oneStep (fun K HK => ?_)
            simp only [pick, List.filterMap_cons, List.filterMap_nil, List.getElem?_toArray, List.getElem?_cons_zero, List.getElem?_cons_succ]
            refine appE (g := ge) EH Hop.flen Hop.one rfl _ _ rfl a1.hops rfl ho rfl (rH.ext ((hx.trans hxn).trans hxc)) (by omega) (by unfold maxLen; omega) hxc.size ?_
            intro v2 w2 oq hz2
            go_wp2_with fail
            refine HK.out _ _ hz2 ?_
            clear HK K ho
            have ho := oq
            clear oq
            replace hxc := hxc.trans hz2
            replace B14 := hz2.block B14
            clear hz2
            obtain ⟨oq, cq, rfl, _⟩ := (OwnF.rd (hf := Hop.flen) ho).shape
            refine blkStep (fun K HK => ?_)
            simp only [pick, List.filterMap_cons, List.filterMap_nil, List.getElem?_toArray, List.getElem?_cons_zero, List.getElem?_cons_succ]
            go_wp2_with fail
            refine HK.out _ _ ?_
            clear HK K
            obtain ⟨wS, hwS, hbS, hcS⟩ := three_set B14 (.int .i64 a1.ts) (.int .i64 a1.beta) (.slice oq a1.hops.length cq)
            have HWS := Lib.hid hwS
            clear hwS
            have cR := blk3 B14
            have ff0 := fr_of B14 0
            have ff1 := fr_of B14 1
            have ff2 := fr_of B14 2
            refine badStep (by kernel_rfl) (fun K HK => ?_)
            simp only [pick, List.filterMap_cons, List.filterMap_nil, List.getElem?_toArray, List.getElem?_cons_zero, List.getElem?_cons_succ]
            go_wp2_with fail
            refine HK.out _ _ ?_
            clear HK K cR ff0 ff1 ff2
            rw [← HWS.out]
            refine doneStep (by kernel_rfl) ?_
            go_wp2_with fail
            go_meet
            exact ⟨b14, _, rfl, hbS, (ho.chg hcS (fun q hq e => ho.ne B14 (by decide) (by rw [hq]; exact congrArg some e))).mono ((hx.trans hxn).size), hbl, hbz, fun q hq => (ho.block q hq).1, hxc.chg hcS (fun i hi => by have h1 : i = b14 := hi; omega)⟩
        case rest =>
          obtain ⟨bu, vu, rfl, Bu, Ru, hbu, hbu2, hqu, hxu⟩ := hcut
          obtain ⟨wy, hwc⟩ : ∃ wA : World, wA = wc := ⟨_, rfl⟩
          subst hwc
          obtain ⟨gu, cu, rfl, _, _⟩ := Ru.some_shape (by omega)
          have hqu2 := hqu gu rfl
          clear hqu
          replace Bx := hxu.block Bx
          replace Rx := Rx.ext hxu
          have cY := blk3 Bu
          have ck := Hop.own_at Ru k hlt
          go_upto_region 18 with (fail)
          clear cY ck
          have hxa : Ext wy (wy.alloc (.cells #[.int .i64 a1.hops[k].asn, .int .i64 a1.hops[k].ing, .int .i64 a1.hops[k].eg, .int .i64 a1.hops[k].exp, .int .i64 a1.hops[k].mac] 73)) := (Ext.refl _).alloc _
          have B17 := blk_new wy (.cells #[.int .i64 a1.hops[k].asn, .int .i64 a1.hops[k].ing, .int .i64 a1.hops[k].eg, .int .i64 a1.hops[k].exp, .int .i64 a1.hops[k].mac] 73)
          have g17 := (Rx.block gx rfl).2
          have g18 := (Ru.block gu rfl).2
          have s17 := hxu.size
          have s18 := (hx.trans hxn).size
          have b17x := blk_lt Bx
          have b17u := blk_lt Bu
          obtain ⟨b17, hb17⟩ : ∃ b, b = wy.heap.size := ⟨_, rfl⟩
          rw [← hb17] at B17 g17 g18 s17 b17x b17u ⊢
          have hxA := hxa.trans ((Ext.refl _).drew)
          replace B17 := ((Ext.refl _).drew).block B17
          replace Bx := hxA.block Bx
          replace Rx := Rx.ext hxA
          replace Bu := hxA.block Bu
          replace Ru := Ru.ext hxA
          replace hxu := hxu.trans hxA
          clear hxa hxA hb17
          refine planStep (.blk [0, 1, 2, 3, 4] (.one 5 (.blk [6, 7, 8] (.one 9 .done)))) [9] (by kernel_rfl) (by kernel_rfl) ?_
          generalize (wy.alloc (.cells #[.int .i64 a1.hops[k].asn, .int .i64 a1.hops[k].ing, .int .i64 a1.hops[k].eg, .int .i64 a1.hops[k].exp, .int .i64 a1.hops[k].mac] 73)).drew = wv at Bx Rx Bu Ru hxu B17 ⊢
          have c17 := blk5 B17
          refine blkStep (fun K HK => ?_)
          simp only [pick, List.filterMap_cons, List.filterMap_nil, List.getElem?_toArray, List.getElem?_cons_zero, List.getElem?_cons_succ]
          go_wp2_with fail
          refine HK.out _ _ ?_
          clear HK K
          clear c17
          refine oneStep (fun K HK => ?_)
          simp only [pick, List.filterMap_cons, List.filterMap_nil, List.getElem?_toArray, List.getElem?_cons_zero, List.getElem?_cons_succ]
          go_wp2_with fail
          refine (l_atE code _ (k : Int) _ (hcode.ext ((hx.trans hxn).trans hxu)) hu (by omega) (by omega) hl).mono ?_
          rintro e wt ⟨r, rfl, hra, hrb, hzt⟩
          go_wp2_with fail
          refine HK.out _ _ hzt ?_
          clear HK K
          replace B17 := hzt.block B17
          replace Bx := hzt.block Bx
          replace Rx := Rx.ext hzt
          replace Bu := hzt.block Bu
          replace Ru := Ru.ext hzt
          replace hxu := hxu.trans hzt
          clear hzt
          have htm : (a1.hops[k].mac + 1 + r).tmod 2147483647 = (a1.hops[k].mac + 1 + r) % 2147483647 := Int.tmod_eq_emod_of_nonneg (by omega)
          refine blkStep (fun K HK => ?_)
          simp only [pick, List.filterMap_cons, List.filterMap_nil, List.getElem?_toArray, List.getElem?_cons_zero, List.getElem?_cons_succ]
          go_wp2_with fail
          refine HK.out _ _ ?_
          clear HK K
          try rw [htm]
          obtain ⟨wq, hwq, hbq, hcq⟩ := one_set B17 4 (.int .i64 ((a1.hops[k].mac + 1 + r) % 2147483647))
          simp only [List.setIfInBounds_toArray, List.set_cons_succ, List.set_cons_zero] at hbq
          have HWQ := Lib.hid hwq
          clear hwq htm
          have cR := blk5 B17
          have ff := fr_of B17 4
          refine badStep (by kernel_rfl) (fun K HK => ?_)
          simp only [pick, List.filterMap_cons, List.filterMap_nil, List.getElem?_toArray, List.getElem?_cons_zero, List.getElem?_cons_succ]
          go_wp2_with fail
          refine HK.out _ _ ?_
          clear HK K cR ff
          rw [← HWQ.out]
          refine doneStep (by kernel_rfl) ?_
          replace Bx := hcq.blkS Bx (by unfold at1; omega)
          replace Bu := hcq.blkS Bu (by unfold at1; omega)
          replace Rx := Rx.chg hcq (fun q hq e => by have h1 : gx = q := by simpa [Value.ownBlock] using hq
                                                     have h2 : q = b17 := e
                                                     omega)
          replace Ru := Ru.chg hcq (fun q hq e => by have h1 : gu = q := by simpa [Value.ownBlock] using hq
                                                     have h2 : q = b17 := e
                                                     omega)
          replace hxu := hxu.chg hcq (fun i hi => by have h1 : i = b17 := hi; omega)
          replace B17 := hbq
          clear hbq hcq HWQ
          obtain ⟨hn, hgn⟩ := Hop.own_set Ru k hlt ⟨a1.hops[k].asn, a1.hops[k].ing, a1.hops[k].eg, a1.hops[k].exp, ((a1.hops[k].mac + 1 + r) % 2147483647)⟩
          obtain ⟨wm, hwn⟩ : ∃ wn : World, wn = (((((wq.setCell ⟨gu, k * 5, none⟩ (.int .i64 a1.hops[k].asn)).setCell ⟨gu, k * 5 + 1, none⟩ (.int .i64 a1.hops[k].ing)).setCell ⟨gu, k * 5 + 2, none⟩ (.int .i64 a1.hops[k].eg)).setCell ⟨gu, k * 5 + 3, none⟩ (.int .i64 a1.hops[k].exp)).setCell ⟨gu, k * 5 + 4, none⟩ (.int .i64 ((a1.hops[k].mac + 1 + r) % 2147483647))) := ⟨_, rfl⟩
          have HWN := Lib.hid hwn
          rw [← hwn] at hn hgn
          clear hwn
          have ck := Hop.own_at Ru k hlt
          have fk0 := Ru.free (k * 5)
          have fk1 := Ru.free (k * 5 + 1)
          have fk2 := Ru.free (k * 5 + 2)
          have fk3 := Ru.free (k * 5 + 3)
          have fk4 := Ru.free (k * 5 + 4)
          have cB := blk3 Bu
          have cH := blk5 B17
          have cs := blk3 (((hx.trans hxn).trans hxu).block HB.out.2)
          go_upto_region 20 with (fail)
          rw [← HWN.out]
          clear ck fk0 fk1 fk2 fk3 fk4 cB cH cs HWN
          have hSn : Chg (fun b => b = gu) wq wm := Chg.ofGrown hgn (fun b h => by cases h; rfl)
          replace Bu := hSn.blkS Bu (fun e => Ru.ne Bu (by decide) (by rw [e]; rfl))
          replace Bx := hSn.blkS Bx (fun e => Ru.ne Bx (by decide) (by rw [e]; rfl))
          have hxm := hxu.grown hgn (fun q hq => by cases hq; exact hqu2)
          replace Rx := Rx.chg hSn (fun q hq e => by have h1 : gx = q := by simpa [Value.ownBlock] using hq
                                                     have h2 : q = gu := e
                                                     have h3 := GXN.out
                                                     omega)
          replace Ru := hn
          clear hn hgn hSn hxu B17
          have hxe := (hx.trans hxn).trans hxm
          have S := SD.ver TK1
          have HBX := Lib.hid (bad_exp S hlt)
          have HBY := Lib.hid (bad_mac S hlt hra hrb)
          have HAU := Lib.hid (auth_self S hlt)
          have HVX := Lib.hid (valid_not (bad_exp S hlt))
          have HVY := Lib.hid (valid_not (bad_mac S hlt hra hrb))
          have hne1 : ((k : Int) != (k : Int)) = false := by simp
          clear S
          have hxd : Ext wm wm.drew := (Ext.refl _).drew
          replace Bx := hxd.block Bx
          replace Bu := hxd.block Bu
          replace Rx := Rx.ext hxd
          replace Ru := Ru.ext hxd
          replace hxe := hxe.trans hxd
          refine planStep (.blk [0, 1, 3] (.one 2 (.blk [4, 5, 6, 7, 9] (.one 8 (.blk [10, 11, 12, 13, 14, 15, 16, 17, 18, 19, 20] (.one 21 (.blk [22, 23, 24, 25, 26] (.one 27 (.blk [28, 29, 30, 31] (.one 32 (.blk [33] .done))))))))))) [] (by kernel_rfl) (by kernel_rfl) ?_
          generalize wm.drew = we at Bx Bu Rx Ru hxe ⊢
          clear hxd hxm hxn
          obtain ⟨bH, oHH, rfl, _⟩ := Hop.at rH 0 (by omega)
          have c3 := blk2 (hxe.block HB.out.1)
          have c4 := blk3 (hxe.block HB.out.2)
          have cx := blk3 Bx
          have cy := blk3 Bu
          obtain ⟨bh, offh, hbo, chp⟩ := Hop.at (rH.ext hxe) k hlt
          cases hbo
          refine blkStep (fun K HK => ?_)
          simp only [pick, List.filterMap_cons, List.filterMap_nil, List.getElem?_toArray, List.getElem?_cons_zero, List.getElem?_cons_succ]
          go_wp2_with fail
          refine HK.out _ _ ?_
          clear HK K
          clear c3 c4 cx cy chp
          refine oneStep (fun K HK => ?_)
          simp only [pick, List.filterMap_cons, List.filterMap_nil, List.getElem?_toArray, List.getElem?_cons_zero, List.getElem?_cons_succ]
          go_wp2_with fail
          refine (i_FirstInvalidHop t1 _ _ ⟨a1.ts, a1.beta, a1.hops.set k ⟨a1.hops[k].asn, a1.hops[k].ing, a1.hops[k].eg, (a1.hops[k].exp + 1), a1.hops[k].mac⟩⟩ _ _ (rA.ext hxe) (OwnF.rd (hf := Hop.flen) Rx) (by simp; omega)).mono ?_
          rintro e wc18 ⟨rfl, hzc⟩
          rw [HBX.out]
          go_wp2_with fail
          refine HK.out _ _ hzc ?_
          clear HK K
          replace Bx := hzc.block Bx
          replace Bu := hzc.block Bu
          replace Rx := Rx.ext hzc
          replace Ru := Ru.ext hzc
          replace hxe := hxe.trans hzc
          clear hzc
          have c3 := blk2 (hxe.block HB.out.1)
          have c4 := blk3 (hxe.block HB.out.2)
          have cx := blk3 Bx
          have cy := blk3 Bu
          obtain ⟨bh, offh, hbo, chp⟩ := Hop.at (rH.ext hxe) k hlt
          cases hbo
          refine blkStep (fun K HK => ?_)
          simp only [pick, List.filterMap_cons, List.filterMap_nil, List.getElem?_toArray, List.getElem?_cons_zero, List.getElem?_cons_succ]
          go_wp2_with fail
          refine HK.out _ _ ?_
          clear HK K
          clear c3 c4 cx cy chp
          refine oneStep (fun K HK => ?_)
          simp only [pick, List.filterMap_cons, List.filterMap_nil, List.getElem?_toArray, List.getElem?_cons_zero, List.getElem?_cons_succ]
          go_wp2_with fail
          refine (i_FirstInvalidHop t1 _ _ ⟨a1.ts, a1.beta, a1.hops.set k ⟨a1.hops[k].asn, a1.hops[k].ing, a1.hops[k].eg, a1.hops[k].exp, ((a1.hops[k].mac + 1 + r) % 2147483647)⟩⟩ _ _ (rA.ext hxe) (OwnF.rd (hf := Hop.flen) Ru) (by simp; omega)).mono ?_
          rintro e wc19 ⟨rfl, hzc⟩
          rw [HBY.out]
          go_wp2_with fail
          refine HK.out _ _ hzc ?_
          clear HK K
          replace Bx := hzc.block Bx
          replace Bu := hzc.block Bu
          replace Rx := Rx.ext hzc
          replace Ru := Ru.ext hzc
          replace hxe := hxe.trans hzc
          clear hzc
          have c3 := blk2 (hxe.block HB.out.1)
          have c4 := blk3 (hxe.block HB.out.2)
          have cx := blk3 Bx
          have cy := blk3 Bu
          obtain ⟨bh, offh, hbo, chp⟩ := Hop.at (rH.ext hxe) k hlt
          cases hbo
          refine blkStep (fun K HK => ?_)
          simp only [pick, List.filterMap_cons, List.filterMap_nil, List.getElem?_toArray, List.getElem?_cons_zero, List.getElem?_cons_succ]
          go_wp2_with fail
          refine HK.out _ _ ?_
          clear HK K
          clear c3 c4 cx cy chp
          refine oneStep (fun K HK => ?_)
          simp only [pick, List.filterMap_cons, List.filterMap_nil, List.getElem?_toArray, List.getElem?_cons_zero, List.getElem?_cons_succ]
          go_wp2_with fail
          refine (i_AuthenticatedBy t1 _ _ a1 _ a1.hops[k].asn _ (rA.ext hxe) (rH.ext hxe) (by omega)).mono ?_
          rintro e wc20 ⟨rfl, hzc⟩
          rw [HAU.out]
          go_wp2_with fail
          refine HK.out _ _ hzc ?_
          clear HK K
          replace Bx := hzc.block Bx
          replace Bu := hzc.block Bu
          replace Rx := Rx.ext hzc
          replace Ru := Ru.ext hzc
          replace hxe := hxe.trans hzc
          clear hzc
          have c3 := blk2 (hxe.block HB.out.1)
          have c4 := blk3 (hxe.block HB.out.2)
          have cx := blk3 Bx
          have cy := blk3 Bu
          obtain ⟨bh, offh, hbo, chp⟩ := Hop.at (rH.ext hxe) k hlt
          cases hbo
          refine blkStep (fun K HK => ?_)
          simp only [pick, List.filterMap_cons, List.filterMap_nil, List.getElem?_toArray, List.getElem?_cons_zero, List.getElem?_cons_succ]
          go_wp2_with fail
          refine HK.out _ _ ?_
          clear HK K
          clear c3 c4 cx cy chp
          refine oneStep (fun K HK => ?_)
          simp only [pick, List.filterMap_cons, List.filterMap_nil, List.getElem?_toArray, List.getElem?_cons_zero, List.getElem?_cons_succ]
          go_wp2_with fail
          refine (i_ValidSegment t1 _ _ ⟨a1.ts, a1.beta, a1.hops.set k ⟨a1.hops[k].asn, a1.hops[k].ing, a1.hops[k].eg, (a1.hops[k].exp + 1), a1.hops[k].mac⟩⟩ _ _ (rA.ext hxe) (rL.ext hxe) (OwnF.rd (hf := Hop.flen) Rx) (by simp; omega)).mono ?_
          rintro e wc21 ⟨rfl, hzc⟩
          rw [HVX.out]
          go_wp2_with fail
          refine HK.out _ _ hzc ?_
          clear HK K
          replace Bx := hzc.block Bx
          replace Bu := hzc.block Bu
          replace Rx := Rx.ext hzc
          replace Ru := Ru.ext hzc
          replace hxe := hxe.trans hzc
          clear hzc
          have c3 := blk2 (hxe.block HB.out.1)
          have c4 := blk3 (hxe.block HB.out.2)
          have cx := blk3 Bx
          have cy := blk3 Bu
          obtain ⟨bh, offh, hbo, chp⟩ := Hop.at (rH.ext hxe) k hlt
          cases hbo
          refine blkStep (fun K HK => ?_)
          simp only [pick, List.filterMap_cons, List.filterMap_nil, List.getElem?_toArray, List.getElem?_cons_zero, List.getElem?_cons_succ]
          go_wp2_with fail
          refine HK.out _ _ ?_
          clear HK K
          clear c3 c4 cx cy chp
          refine oneStep (fun K HK => ?_)
          simp only [pick, List.filterMap_cons, List.filterMap_nil, List.getElem?_toArray, List.getElem?_cons_zero, List.getElem?_cons_succ]
          go_wp2_with fail
          refine (i_ValidSegment t1 _ _ ⟨a1.ts, a1.beta, a1.hops.set k ⟨a1.hops[k].asn, a1.hops[k].ing, a1.hops[k].eg, a1.hops[k].exp, ((a1.hops[k].mac + 1 + r) % 2147483647)⟩⟩ _ _ (rA.ext hxe) (rL.ext hxe) (OwnF.rd (hf := Hop.flen) Ru) (by simp; omega)).mono ?_
          rintro e wc22 ⟨rfl, hzc⟩
          rw [HVY.out]
          go_wp2_with fail
          refine HK.out _ _ hzc ?_
          clear HK K
          replace Bx := hzc.block Bx
          replace Bu := hzc.block Bu
          replace Rx := Rx.ext hzc
          replace Ru := Ru.ext hzc
          replace hxe := hxe.trans hzc
          clear hzc
          have c3 := blk2 (hxe.block HB.out.1)
          have c4 := blk3 (hxe.block HB.out.2)
          have cx := blk3 Bx
          have cy := blk3 Bu
          obtain ⟨bh, offh, hbo, chp⟩ := Hop.at (rH.ext hxe) k hlt
          cases hbo
          refine blkStep (fun K HK => ?_)
          simp only [pick, List.filterMap_cons, List.filterMap_nil, List.getElem?_toArray, List.getElem?_cons_zero, List.getElem?_cons_succ]
          go_wp2_with fail
          refine HK.out _ _ ?_
          clear HK K
          refine doneStep (by kernel_rfl) ?_
          clear c3 c4 cx cy chp
          go_wp2_with fail
          go_roundg (gk - 1)
          case measure => have h1 := HGK.out; omega
          case rel => exact ⟨k + 1, by have h1 := HGK.out; omega, congrArg (Value.int .i64) (by first | omega | (unfold wrap64; omega)), hxe⟩
    · have c3 := blk2 (hx.block HB.out.1)
      have c4 := blk3 (hx.block HB.out.2)
      have hle := bad_ts (SD.ver TK1) (by omega)
      go_wp2_with fail
      refine (i_FirstInvalidHop t1 _ _ ⟨a1.ts + 1, a1.beta, a1.hops⟩ _ _ (rA.ext hx) (rH.ext hx) (by simp only; omega)).mono ?_
      rintro e wz ⟨rfl, hzz⟩
      clear c3 c4
      generalize firstBad t1 ⟨a1.ts + 1, a1.beta, a1.hops⟩ = fb at hle ⊢
      go_wp2_with fail
      go_ret
      exact ⟨rfl, HXL.out.trans (hx.trans hzz)⟩


set_option maxRecDepth 100000 in
theorem FnChecks_lifted (os : Os) (started : os.Started) (H : Type) (enc : TypeId × Value → H) :
    ReturnsInHanded {} Try.checked os 6 .any (Rows.fnChecksSpec.pre6 enc Try.prog Try.f6 Rows.fnChecksRow.domain false) (Rows.fnChecksSpec.post enc Try.prog Try.f6 false true false false) := by
  refine returnsInHanded_of_change (C := Try.checked) own_knob started (by kernel_rfl) Try.func6
    (ChangeSpec.witness6 (enc := enc) (C := Try.checked) false ⟨#[], #[.slice none 0 0], []⟩ 8 (by kernel_rfl) (by kernel_rfl) (by kernel_rfl) (by kernel_rfl)) ?_
  intro W base args ds gs before hval0 hW hcnd _
  have hval : ∀ (j : Nat) t v, Try.f6.params[j]? = some t → args[j]? = some v → Value.okWide Try.prog W .any base t v := hval0
  have hW' := hW
  obtain ⟨p, q, hA0, hV, rfl, hfz, hnd⟩ := hW
  have hA : DataW.TrodAll enc Try.prog W 0 (fun _ => true) true Try.f6.params.toList args.toList ds p := hA0
  rw [Try.params6] at hA hval
  obtain ⟨v0, vs0, d0, ds0, p0, q0, hargs, rfl, rfl, t0, r0⟩ := trodAll_cons hA
  obtain ⟨rfl, rfl, rfl⟩ := trodAll_nil r0
  obtain rfl : args = #[v0] := by cases args; simp_all
  obtain ⟨a0, b0, k0⟩ := arg_slice Try.underlying22 (hval 0 _ v0 rfl rfl) opensBytes t0
  refine (l_FnChecks a0 v0 W b0 k0).mono fun e W' ⟨he, hx⟩ => ?_
  subst he
  refine ⟨_, rfl, post_law laid_out ?_ (by kernel_rfl) Try.underlying4 rfl ?_ hW' hx⟩
  · rw [Try.params6]
    intro t ht
    simp only [List.mem_cons, List.not_mem_nil, or_false] at ht
    rcases ht with rfl <;> exact ⟨by kernel_rfl, of_decide_eq_true (by kernel_rfl)⟩
  · rw [Try.params6]
    intro ds' h
    obtain ⟨x0, rfl⟩ := len1 (by simpa using h)
    rfl

theorem FnChecks_holds : Rows.FnChecksSaid :=
  OpenClaim.holds_of_wide 6 Try.f6 rfl rfl rfl rfl rfl rfl rfl ⟨rfl, rfl, rfl, rfl, rfl⟩ rfl rfl rfl rfl rfl (by kernel_rfl) Try.func6 (by kernel_rfl)
    (of_decide_eq_true (by kernel_rfl)) (by unfold Func.isWrapper; first | (rw [if_pos (by decide +kernel)]; kernel_rfl) | (rw [if_neg (by decide +kernel)]; exact ⟨rfl, rfl⟩))
    (fun os started H enc _ => FnChecks_lifted os started H enc)
#print axioms FnChecks_holds

end Go.Proofs.Ytkolfiedakojoaa
