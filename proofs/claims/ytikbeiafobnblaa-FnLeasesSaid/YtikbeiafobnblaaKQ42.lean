/- What these laws need: FnLeases: Parts made of segments, reference; the first and the last AS of a segment. A path up by one segment and down by another one, from where they meet. The laws' own comparisons: what is the same compares as the same. -/
import Derived.Test.YtikbeiafobnblaaKQ26
import Derived.Test.YtikbeiafobnblaaKQ41
namespace Go.Proofs.Ytikbeiafobnblaa
section
open Go.ChangeShapes Go.WideShapes Go.ChangeAt Go.RowKit Go.Deep
set_option maxHeartbeats 1000000 in
theorem s_FirstASn (s : Seg) (v : Value) (w : World) (r : RdS Hop.rep w v s.hops) :
  Calls Try.prog 233 #[.agg #[.int .i64 s.ts, .int .i64 s.beta, v]] w fun e w' => ∃ q : Int, e = .returned (.int .i64 q) ∧ (∀ h : 0 < s.hops.length, q = (s.hops[0]'(by omega)).asn) ∧ Ext w w' := by
 obtain ⟨o, cap, rfl, hsm⟩ := r.shape
 have hx0 : Ext w (w.alloc (.cells #[.int .i64 s.ts, .int .i64 s.beta, .slice o s.hops.length cap] 60)) := (Ext.refl _).alloc _
 have HB0 := Lib.hid (blk_new w (.cells #[.int .i64 s.ts, .int .i64 s.beta, .slice o s.hops.length cap] 60))
 have cb := blk3 HB0.out
 go_enter Try.func233, Try.ntmps233
 by_cases h0 : 0 < s.hops.length
 ·
  have h1 : ((s.hops.length : Int) == 0) = false := by simp; exact List.ne_nil_of_length_pos h0
  have h2 : (0 : Int) < (s.hops.length : Int) := by omega
  obtain ⟨b, off, rfl, hc⟩ := Hop.at (r.ext hx0) 0 h0
  simp only [Nat.zero_mul, Nat.add_zero] at hc
  go_wp2_with fail
  go_ret
  exact ⟨_, rfl, fun _ => rfl, hx0⟩
 ·
  have h1 : ((s.hops.length : Int) == 0) = true := by simp; exact List.eq_nil_of_length_eq_zero (by omega)
  go_wp2_with fail
  go_ret
  exact ⟨_, rfl, fun h => absurd h h0, hx0⟩
set_option maxHeartbeats 1000000 in
theorem s_LastASn (s : Seg) (v : Value) (w : World) (r : RdS Hop.rep w v s.hops) :
  Calls Try.prog 246 #[.agg #[.int .i64 s.ts, .int .i64 s.beta, v]] w fun e w' => ∃ q : Int, e = .returned (.int .i64 q) ∧ (∀ h : 0 < s.hops.length, q = (s.hops[(s.hops.length - 1)]'(by omega)).asn) ∧ Ext w w' := by
 obtain ⟨o, cap, rfl, hsm⟩ := r.shape
 have hx0 : Ext w (w.alloc (.cells #[.int .i64 s.ts, .int .i64 s.beta, .slice o s.hops.length cap] 60)) := (Ext.refl _).alloc _
 have HB0 := Lib.hid (blk_new w (.cells #[.int .i64 s.ts, .int .i64 s.beta, .slice o s.hops.length cap] 60))
 have cb := blk3 HB0.out
 go_enter Try.func246, Try.ntmps246
 by_cases h0 : 0 < s.hops.length
 ·
  have h1 : ((s.hops.length : Int) == 0) = false := by simp; exact List.ne_nil_of_length_pos h0
  have hlt : s.hops.length - 1 < s.hops.length := by omega
  obtain ⟨b, off, rfl, hc⟩ := Hop.at (r.ext hx0) (s.hops.length - 1) hlt
  obtain ⟨m, hm⟩ : ∃ m, m = s.hops.length - 1 := ⟨_, rfl⟩
  have hm1 : (s.hops.length : Int) - 1 = (m : Int) := by omega
  have hm2 : m < s.hops.length := by omega
  have h2 : (0 : Int) < (s.hops.length : Int) := by omega
  have hx : s.hops[s.hops.length - 1] = s.hops[m] := by congr 1; omega
  rw [hx] at hc
  rw [← hm] at hc
  have HX := Lib.hid hx
  clear hx hm
  go_wp2_with fail
  go_ret
  exact ⟨_, rfl, fun _ => congrArg Hop.asn HX.out.symm, hx0⟩
 ·
  have h1 : ((s.hops.length : Int) == 0) = true := by simp; exact List.eq_nil_of_length_eq_zero (by omega)
  go_wp2_with fail
  go_ret
  exact ⟨_, rfl, fun h => absurd h h0, hx0⟩
end
section
open Go.ChangeShapes Go.WideShapes Go.ChangeAt Go.RowKit Go.Deep
set_option maxRecDepth 100000 in
set_option maxHeartbeats 8000000 in
theorem s_l22Meet (a b : Seg) (va vb : Value) (w : World) (ra : RdS Hop.rep w va a.hops) (rb : RdS Hop.rep w vb b.hops) (hla : a.hops.length ≤ 1000) (hlb : b.hops.length ≤ 1000) :
  Calls Try.prog 245 #[.agg #[.int .i64 a.ts, .int .i64 a.beta, va], .agg #[.int .i64 b.ts, .int .i64 b.beta, vb]] w fun e w' => ∃ (v : Value) (l : List Part), e = .returned (.agg #[v]) ∧ (l = [] ∨ ∃ i k : Nat, i < a.hops.length ∧ k < b.hops.length ∧ l = [makePart a 1 i, makePart b 4 k]) ∧ Part.own.own (rng w.heap.size w'.heap.size) w' v l ∧ Ext w w' := by
 obtain ⟨o_a, c_a, rfl, _⟩ := ra.shape
 obtain ⟨o_b, c_b, rfl, _⟩ := rb.shape
 have hx0 := ext3 w (.cells #[.int .i64 a.ts, .int .i64 a.beta, .slice o_a a.hops.length c_a] 60) (.cells #[.int .i64 b.ts, .int .i64 b.beta, .slice o_b b.hops.length c_b] 60) (.cells #[.slice none 0 0] 46)
 have HB := Lib.hid (al3 w (.cells #[.int .i64 a.ts, .int .i64 a.beta, .slice o_a a.hops.length c_a] 60) (.cells #[.int .i64 b.ts, .int .i64 b.beta, .slice o_b b.hops.length c_b] 60) (.cells #[.slice none 0 0] 46))
 obtain ⟨W0, hW0⟩ : ∃ W0 : World, W0 = ((w.alloc (.cells #[.int .i64 a.ts, .int .i64 a.beta, .slice o_a a.hops.length c_a] 60)).alloc (.cells #[.int .i64 b.ts, .int .i64 b.beta, .slice o_b b.hops.length c_b] 60)).alloc (.cells #[.slice none 0 0] 46) := ⟨_, rfl⟩
 rw [← hW0] at HB hx0
 have hs0 : W0.heap.size = w.heap.size + 3 := by rw [hW0]; simp
 go_enter Try.func245, Try.ntmps245
 go_upto_region 1 with (fail)
 rw [← hW0]
 clear hW0
 have cb := blk3 HB.out.1
 go_wp2_with fail
 refine (s_SegmentASes a _ _ (ra.ext hx0) (by omega)).mono ?_
 rintro e w1 ⟨v1, rfl, o1, h1⟩
 obtain ⟨la, hla2⟩ : ∃ la, la = a.hops.map (·.asn) := ⟨_, rfl⟩
 rw [← hla2] at o1
 have HLA : Hid (la.length = a.hops.length) := Lib.hid (by rw [hla2]; simp)
 clear hla2
 obtain ⟨oa, ca, rfl, _⟩ := (ints_rep o1).shape
 have r1 := ints_rep o1
 clear o1 cb
 have cb := blk3 (h1.block HB.out.2.1)
 go_wp2_with fail
 refine (s_SegmentASes b _ _ (rb.ext (hx0.trans h1)) (by omega)).mono ?_
 rintro e w2 ⟨v2, rfl, o2, h2⟩
 obtain ⟨lb, hlb2⟩ : ∃ lb, lb = b.hops.map (·.asn) := ⟨_, rfl⟩
 rw [← hlb2] at o2
 have HLB : Hid (lb.length = b.hops.length) := Lib.hid (by rw [hlb2]; simp)
 clear hlb2
 obtain ⟨ob, cb', rfl, _⟩ := (ints_rep o2).shape
 have r2 := ints_rep o2
 clear o2 cb
 have hx2 := h1.trans h2
 go_wp2_with fail
 go_loopg [7] la.length (fun gk i wr => i = .int .i64 ((gk : Int) - 1) ∧ gk ≤ la.length ∧ Ext w2 wr)
 case atStart => exact ⟨rfl, Nat.le_refl _, Ext.refl _⟩
 case round =>
  obtain ⟨rfl, hkl, hx⟩ := hrel
  cases gk with
  | zero =>
   have hb4 := (hx2.trans hx).block HB.out.2.2
   have c4 := blk1 hb4
   have g0 := fr_of hb4 0
   have hsz := (hx2.trans hx).size
   go_wp2
   refine bodyPost_ret (v := .agg #[.slice none 0 0]) (by simp [results, Try.results245, go_sem, c4]) rfl ⟨_, [], rfl, .inl rfl, ?_, ?_⟩
   ·
    exact Own.mono _ (Part.own.nil _) (fun _ h => h.elim)
   ·
    exact (hx0.trans (hx2.trans hx)).setCell (by simp; omega) _
  | succ j =>
   have e1 : (((j + 1 : Nat) : Int) - 1) = (j : Int) := by omega
   rw [e1]
   clear e1
   have hj0 : (0 : Int) ≤ (j : Int) := Int.natCast_nonneg _
   have hj : j < la.length := by omega
   obtain ⟨ba, offa, rfl, ha⟩ := ints_at (r1.ext (h2.trans hx)) j hj
   go_wp2_with fail
   obtain ⟨wo, hwo⟩ : ∃ wo : World, wo = wr := ⟨_, rfl⟩
   subst hwo
   go_loopg [8] lb.length (fun gk i wr => i = .int .i64 ((gk : Int) - 1) ∧ gk ≤ lb.length ∧ Ext wo wr)
   case atStart => exact ⟨rfl, Nat.le_refl _, Ext.refl _⟩
   case round =>
    obtain ⟨rfl, hml, hy⟩ := hrel
    cases gk with
    | zero =>
     go_wp2
     go_roundg j
     case measure => omega
     case rel => exact ⟨rfl, by omega, hx.trans hy⟩
    | succ m =>
     have e2 : (((m + 1 : Nat) : Int) - 1) = (m : Int) := by omega
     rw [e2]
     clear e2
     have hm0 : (0 : Int) ≤ (m : Int) := Int.natCast_nonneg _
     have hm : m < lb.length := by omega
     obtain ⟨bb, offb, rfl, hb⟩ := ints_at (r2.ext (hx.trans hy)) m hm
     have ha2 := hy.cell ha
     go_upto_region 9 with (fail)
     refine planStep (.blk [0, 1, 2, 3, 4, 5, 6, 7, 8] .done) [] (by kernel_rfl) (by kernel_rfl) ?_
     have hxd : Ext wr wr.drew := (Ext.refl _).drew
     generalize wr.drew = wd at hxd ⊢
     have ha3 := hxd.cell ha2
     have hb3 := hxd.cell hb
     have hja : (j : Int) < (la.length : Int) := by omega
     have hmb : (m : Int) < (lb.length : Int) := by omega
     refine blkStep (fun K HK => ?_)
     simp only [PK]
     go_wp2_with fail
     refine HK.out _ _ ?_
     clear HK K
     refine doneStep (by kernel_rfl) ?_
     have hx3 := hx2.trans (hx.trans (hy.trans hxd))
     clear ha hb ha2 ha3 hb3
     cases heq : (la[j] == lb[m])
     ·
      go_wp2_with fail
      go_roundg m
      case measure => omega
      case rel => exact ⟨rfl, by omega, hy.trans hxd⟩
     ·
      go_upto_region 10 with (fail)
      clear r1 r2
      refine planStep (.blk [0, 1, 3, 4] (.one 2 (.one 5 (.one 6 (.blk [7] (.one 8 .done)))))) [8] (by kernel_rfl) (by kernel_rfl) ?_
      replace hx3 := hx3.trans (Ext.refl wd).drew
      generalize wd.drew = we at hx3 ⊢
      have cb1 := blk3 (hx3.block HB.out.1)
      have cb2 := blk3 (hx3.block HB.out.2.1)
      refine blkStep (fun K HK => ?_)
      simp only [PK]
      go_wp2_with fail
      refine HK.out _ _ ?_
      clear HK K
      clear cb1 cb2
      have hja2 := HLA.out
      have hmb2 := HLB.out
      refine oneStep (fun K HK => ?_)
      simp only [PK]
      go_wp2_with fail
      refine (s_MakePart a _ 1 (j : Int) _ (ra.ext (hx0.trans hx3)) hla).mono ?_
      rintro e wA ⟨uA, rfl, oA, hzA⟩
      obtain ⟨pA, hpA⟩ : ∃ pA, pA = makePart a 1 j := ⟨_, rfl⟩
      rw [← hpA] at oA ⊢
      have HPA := Lib.hid hpA
      clear hpA
      obtain ⟨o_p, c_p, rfl, _⟩ := (OwnF.rd (hf := Hop.flen) oA).shape
      go_wp2_with fail
      refine HK.out _ _ hzA ?_
      clear HK K
      refine oneStep (fun K HK => ?_)
      simp only [PK]
      go_wp2_with fail
      refine (s_MakePart b _ 4 (m : Int) _ (rb.ext (hx0.trans (hx3.trans hzA))) hlb).mono ?_
      rintro e wB ⟨uB, rfl, oB, hzB⟩
      obtain ⟨pB, hpB⟩ : ∃ pB, pB = makePart b 4 m := ⟨_, rfl⟩
      rw [← hpB] at oB ⊢
      have HPB := Lib.hid hpB
      clear hpB
      obtain ⟨o_q, c_q, rfl, _⟩ := (OwnF.rd (hf := Hop.flen) oB).shape
      go_wp2_with fail
      refine HK.out _ _ hzB ?_
      clear HK K
      have hx5 := hx3.trans (hzA.trans hzB)
      have LIT := nest_lit (w := wB) (c := Part.c) (hc := Part.clen) (sub := (·.hops)) (I := Own.flat Hop.f 5 Hop.flen 146) (e := 78) [⟨pA, .slice o_p pA.hops.length c_p, rng we.heap.size wA.heap.size⟩, ⟨pB, .slice o_q pB.hops.length c_q, rng wA.heap.size wB.heap.size⟩] we.heap.size (hzA.trans hzB).size (by simp [maxLen])
       (fun q hq => by
        have sA := hzA.size
        have sB := hzB.size
        rcases List.mem_cons.1 hq with rfl | hq
        ·
         exact ⟨Own.ext (O := Own.flat Hop.f 5 Hop.flen 146) (Own.ofF oA) hzB, fun b hb => ⟨hb.1, Nat.lt_of_lt_of_le hb.2 sB⟩⟩
        ·
         obtain rfl := List.mem_singleton.1 hq
         exact ⟨Own.ofF oB, fun b hb => ⟨Nat.le_trans sA hb.1, hb.2⟩⟩)
       (fun i j hi hj hne b h1 h2 => by
        have k1 : i = 0 ∨ i = 1 := by simp at hi; omega
        have k2 : j = 0 ∨ j = 1 := by simp at hj; omega
        rcases k1 with rfl | rfl <;> rcases k2 with rfl | rfl
        ·
         exact hne rfl
        ·
         have a1 := h1.2; have a2 := h2.1; omega
        ·
         have a1 := h1.1; have a2 := h2.2; omega
        ·
         exact hne rfl)
      have HLIT := Lib.hid LIT
      clear LIT oA oB
      refine oneStep (fun K HK => ?_)
      simp only [PK]
      go_wp2_with fail
      refine HK.out _ _ ((Ext.refl _).alloc _) ?_
      clear HK K
      refine blkStep (fun K HK => ?_)
      simp only [PK]
      go_wp2_with fail
      refine HK.out _ _ ?_
      clear HK K
      obtain ⟨LW, hLW⟩ : ∃ LW : World, LW = wB.alloc (.cells #[.int .i64 pA.kind, .int .i64 pA.ts, .int .i64 pA.beta, .slice o_p pA.hops.length c_p, .int .i64 pB.kind, .int .i64 pB.ts, .int .i64 pB.beta, .slice o_q pB.hops.length c_q] 78) := ⟨_, rfl⟩
      have hxL : Ext wB LW := by rw [hLW]; exact (Ext.refl _).alloc _
      have HL2 : Hid (Part.own.own (rng we.heap.size (wB.heap.size + 1)) LW (.slice (some ⟨wB.heap.size, 0, none⟩) 2 2) [pA, pB]) := Lib.hid (by rw [hLW]; exact HLIT.out)
      rw [← hLW]
      have hsL : LW.heap.size = wB.heap.size + 1 := by rw [hLW]; simp
      clear hLW HLIT
      have hx6 := hx5.trans hxL
      have hb4 := hx6.block HB.out.2.2
      have c4 := blk1 hb4
      have g0 := fr_of hb4 0
      have hsz := hx3.size
      refine badStep (by kernel_rfl) (fun K HK => ?_)
      simp only [PK]
      go_wp2_with fail
      refine HK.out _ _ ?_
      clear HK K
      refine doneStep (by kernel_rfl) ?_
      go_wp2_with fail
      refine bodyPost_ret (v := .agg #[.slice (some ⟨wB.heap.size, 0, none⟩) 2 2]) (by simp [results, Try.results245, go_sem, c4]) rfl ⟨_, [pA, pB], rfl, .inr ⟨j, m, by omega, by omega, by rw [HPA.out, HPB.out]⟩, ?_, ?_⟩
      ·
       have hset : Chg (at1 (w.heap.size + 1 + 1)) LW (LW.setCell ⟨w.heap.size + 1 + 1, 0, none⟩ (.slice (some ⟨wB.heap.size, 0, none⟩) 2 2)) := Chg.setC (S := at1 (w.heap.size + 1 + 1)) (p := ⟨w.heap.size + 1 + 1, 0, none⟩) (Chg.refl _ _) rfl _
       exact Own.mono _ (Own.at1g HL2.out hset (.inl (by omega))) (fun b hb => ⟨by have h1 := hb.1; omega, by have h1 := hb.2; simp; omega⟩)
      ·
       exact (hx0.trans hx6).setCell (by simp; omega) _
end
section
open Go.ChangeShapes Go.WideShapes Go.ChangeAt Go.RowKit Go.Deep
set_option maxRecDepth 100000 in
set_option maxHeartbeats 400000 in
theorem l_sameSteps (a : List Step) (va : Value) (b : List Step) (vb : Value) (w : World) (ha : RdS Step.rep w va a) (hb : RdS Step.rep w vb b) :
  Calls Try.prog 67 #[va, vb] w fun e w' => e = .returned (.bool (decide (a = b))) ∧ Ext w w' := by
 obtain ⟨oa, ca, rfl, hsa⟩ := ha.shape
 obtain ⟨ob, cb, rfl, hsb⟩ := hb.shape
 by_cases hne : a.length = b.length
 ·
  have Hne := Lib.hid hne
  have t1 : ((a.length : Int) != (b.length : Int)) = false := by simp [hne]
  clear hne
  go_enter Try.func67, Try.ntmps67
  go_wp2
  go_loopw [5] (fun i wr => ∃ (k : Nat), k ≤ a.length ∧ i = .int .i64 k ∧ a.take k = b.take k ∧ Ext w wr) (fun i _ => a.length - (intOf i).toNat)
  case atStart => exact ⟨0, Nat.zero_le _, rfl, rfl, Ext.refl _⟩
  case round =>
   obtain ⟨k, hk, rfl, htk, hx⟩ := hrel
   have Htk := Lib.hid htk; clear htk
   by_cases hlt : k < a.length
   ·
    have hlb : k < b.length := by rw [← Hne.out]; exact hlt
    obtain ⟨b1, off1, rfl, hc1⟩ := Step.at (ha.ext hx) k hlt
    obtain ⟨b2, off2, rfl, hc2⟩ := Step.at (hb.ext hx) k hlb
    go_wp2
    go_still_tail 8, (by kernel_rfl)
    go_wp2_with fail
    all_goals first
     | (go_ret; exact ⟨ret_bool (Eq.symm (decide_eq_false (by rintro rfl; contradiction))), hx.drew⟩)
     | exact ⟨⟨k + 1, by omega, by go_num, take_snoc2 Htk.out hlt hlb (Step.ext' (by assumption) (by assumption) (by assumption)), hx.drew⟩, by simp [intOf]; omega⟩
   ·
    have hab : decide (a = b) = true := by
     have := Htk.out
     rw [List.take_of_length_le (by omega), List.take_of_length_le (by rw [← Hne.out]; omega)] at this
     simp [this]
    have Hab := Lib.hid hab; clear hab
    go_wp2
    go_ret
    exact ⟨ret_bool Hab.out.symm, hx⟩
 ·
  have t1 : ((a.length : Int) != (b.length : Int)) = true := by simp [bne_iff_ne]; omega
  have hab : decide (a = b) = false := by
   rw [decide_eq_false_iff_not]; rintro rfl; exact hne rfl
  have Hab := Lib.hid hab; clear hab
  clear hne
  go_enter Try.func67, Try.ntmps67
  go_wp2
  go_ret
  exact ⟨ret_bool Hab.out.symm, Ext.refl _⟩
end
end Go.Proofs.Ytikbeiafobnblaa
