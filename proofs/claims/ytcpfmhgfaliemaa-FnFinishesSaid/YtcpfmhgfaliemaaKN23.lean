/- What these laws need: FnFinishes: The draw of a segment with a thing turned. -/
import Derived.Test.YtcpfmhgfaliemaaKN22
namespace Go.Proofs.Ytcpfmhgfaliemaa
section
open Go.ChangeShapes Go.WideShapes Go.ChangeAt Go.RowKit Go.Deep
set_option maxRecDepth 100000 in
set_option maxHeartbeats 40000000 in
theorem s_l9Spoil (g : Nat) (a : Seg) (va : Value) (cv : Value) (cd : List Int) (w : World) (hc : Cur g cv cd w) (ra : St g Hop.rep w va a.hops) (hl : a.hops.length ≤ 1000) :
  Calls Try.prog 46 #[.pointer (some ⟨g, 0, none⟩), .agg #[.int .i64 a.ts, .int .i64 a.beta, va]] w fun e w' => ∃ (v : Value) (b : Seg), e = .returned (.agg #[.int .i64 b.ts, .int .i64 b.beta, v]) ∧ b.hops.length ≤ a.hops.length ∧ OwnF Hop.f 5 w.heap.size 108 w' v b.hops ∧ Cur g cv cd w' ∧ Chg (at1 g) w w' := by
 obtain ⟨EH⟩ := elemHop
 obtain ⟨oa, ca, rfl, _⟩ := ra.rd.shape
 have hgw := hc.lt
 have s : DSt g cv cd w ((w.alloc (.cells #[.int .i64 a.ts, .int .i64 a.beta, .slice oa a.hops.length ca] 60)).alloc (.cells #[.int .i64 0, .int .i64 0, .slice none 0 0] 60)) := ⟨hc.ext (ext2 w _ _), Chg.ofExt (ext2 w _ _), hc⟩
 have B3 := (al2 w (.cells #[.int .i64 a.ts, .int .i64 a.beta, .slice oa a.hops.length ca] 60) (.cells #[.int .i64 0, .int .i64 0, .slice none 0 0] 60)).1
 have B4 := (al2 w (.cells #[.int .i64 a.ts, .int .i64 a.beta, .slice oa a.hops.length ca] 60) (.cells #[.int .i64 0, .int .i64 0, .slice none 0 0] 60)).2
 go_enter Try.func46, Try.ntmps46
 have cb_B3 := blk3 B3
 have cb_B4 := blk3 B4
 go_wp2_with fail
 clear cb_B3 cb_B4
 have hbs := s.x.size
 refine (s_l9Copy a _ _ (ra.step s.x).rd (by omega)).mono ?_
 rintro e w1 ⟨vh, rfl, RH, hzq⟩
 replace RH := RH.mono hbs
 replace B3 := Ext.block hzq B3
 replace B4 := Ext.block hzq B4
 replace s := s.ext hzq
 clear hzq hbs
 obtain ⟨oh, ch, rfl, _⟩ := (OwnF.rd (hf := Hop.flen) RH).shape
 have cb_B3 := blk3 B3
 have cb_B4 := blk3 B4
 go_upto_region 2 with (fail)
 clear cb_B3 cb_B4
 have hxa : Ext w1 (w1.alloc (.cells #[.int .i64 a.ts, .int .i64 a.beta, .slice oh a.hops.length ch] 60)) := (Ext.refl _).alloc _
 have lt_w : w.heap.size ≤ w1.heap.size := s.x.size
 have lt_B3 : w.heap.size < w1.heap.size := blk_lt B3
 have lt_B4 : (w.heap.size + 1) < w1.heap.size := blk_lt B4
 replace B3 := Ext.block hxa B3
 replace B4 := Ext.block hxa B4
 replace RH := RH.ext hxa
 replace s := s.ext hxa
 have B5 := blk_new w1 (.cells #[.int .i64 a.ts, .int .i64 a.beta, .slice oh a.hops.length ch] 60)
 obtain ⟨b5, eb5⟩ : ∃ b, b = w1.heap.size := ⟨_, rfl⟩
 rw [← eb5] at B5 lt_w lt_B3 lt_B4
 have lt_B3_B5 := lt_B3
 clear lt_B3
 have lt_B4_B5 := lt_B4
 clear lt_B4
 have ltw_B5 := lt_w
 clear lt_w hxa
 try rw [← eb5]
 generalize (w1.alloc (.cells #[.int .i64 a.ts, .int .i64 a.beta, .slice oh a.hops.length ch] 60)) = wa at B3 B4 B5 RH s ⊢
 clear eb5
 have hl0 : a.hops.length = 0 ∨ 0 < a.hops.length := by omega
 rcases hl0 with hl0 | hl0
 ·
  have hl1 : ((a.hops.length : Int) == 0) = true := by simp; exact List.eq_nil_of_length_eq_zero hl0
  clear hl0
  obtain ⟨wpr, hwr, hbr, hcr⟩ := three_set B4 (.int .i64 a.ts) (.int .i64 a.beta) ((.slice oh a.hops.length ch))
  have HWr := Lib.hid hwr
  clear hwr
  have ff0 := fr_of B4 0
  have ff1 := fr_of B4 1
  have ff2 := fr_of B4 2
  have cb_B3 := blk3 B3
  have cb_B4 := blk3 B4
  have cb_B5 := blk3 B5
  go_wp2_with fail
  rw [← HWr.out]
  clear HWr ff0 ff1 ff2 cb_B3 cb_B4 cb_B5
  replace RH := RH.chg hcr (fun k hk e => RH.ne B4 (by decide) (by rw [hk]; exact congrArg some e))
  replace B3 := hcr.blkS B3 (by unfold at1; omega)
  replace B5 := hcr.blkS B5 (by unfold at1; omega)
  replace B4 := hbr
  clear hbr
  replace s := s.put hcr (fun i hi => by have h1 : i = (w.heap.size + 1) := hi; omega)
  clear hcr
  have cC := blk3 B4
  refine bodyPost_ret (v := .agg #[.int .i64 a.ts, .int .i64 a.beta, (.slice oh a.hops.length ch)]) (by simp [results, Try.results46, go_sem, cC]) rfl ?_
  exact ⟨_, ⟨a.ts, a.beta, a.hops⟩, rfl, Nat.le_refl _, RH, s.c, s.x⟩
 ·
  have hl1 : ((a.hops.length : Int) == 0) = false := by simp; exact List.ne_nil_of_length_pos hl0
  obtain ⟨gh, ch2, hsh, _, _⟩ := RH.some_shape hl0
  cases hsh
  have cb_B3 := blk3 B3
  have cb_B4 := blk3 B4
  have cb_B5 := blk3 B5
  go_wp2_with fail
  clear cb_B3 cb_B4 cb_B5
  have hbs := s.x.size
  refine (s_l1Below g (a.hops.length : Int) _ _ _ s.c).mono ?_
  rintro e w2 ⟨k, rfl, hk0, hk1, hcq, hzq⟩
  replace B3 := hzq.blkS B3 (by unfold at1; omega)
  replace B4 := hzq.blkS B4 (by unfold at1; omega)
  replace B5 := hzq.blkS B5 (by unfold at1; omega)
  replace RH := RH.at1 hzq hgw
  replace s := s.draw hcq hzq
  clear hcq hzq hbs
  obtain ⟨k, rfl⟩ := Int.eq_ofNat_of_zero_le hk0
  have hk2 : k < a.hops.length := by omega
  clear hk0 hk1
  have ck := Hop.own_at RH k hk2
  have cb_B3 := blk3 B3
  have cb_B4 := blk3 B4
  have cb_B5 := blk3 B5
  go_upto_region 6 with (fail)
  clear cb_B3 cb_B4 cb_B5
  clear ck
  have g7 := (RH.block gh rfl).2
  have hxa : Ext w2 (w2.alloc (.cells #[.int .i64 a.hops[k].asn, .int .i64 a.hops[k].ing, .int .i64 a.hops[k].eg, .int .i64 a.hops[k].exp, .int .i64 a.hops[k].mac] 108)) := (Ext.refl _).alloc _
  have lt_w : w.heap.size ≤ w2.heap.size := s.x.size
  have lt_B3 : w.heap.size < w2.heap.size := blk_lt B3
  have lt_B4 : (w.heap.size + 1) < w2.heap.size := blk_lt B4
  have lt_B5 : b5 < w2.heap.size := blk_lt B5
  replace B3 := Ext.block hxa B3
  replace B4 := Ext.block hxa B4
  replace B5 := Ext.block hxa B5
  replace RH := RH.ext hxa
  replace s := s.ext hxa
  have B7 := blk_new w2 (.cells #[.int .i64 a.hops[k].asn, .int .i64 a.hops[k].ing, .int .i64 a.hops[k].eg, .int .i64 a.hops[k].exp, .int .i64 a.hops[k].mac] 108)
  obtain ⟨b7, eb7⟩ : ∃ b, b = w2.heap.size := ⟨_, rfl⟩
  rw [← eb7] at B7 lt_w lt_B3 lt_B4 lt_B5
  have lt_B3_B7 := lt_B3
  clear lt_B3
  have lt_B4_B7 := lt_B4
  clear lt_B4
  have lt_B5_B7 := lt_B5
  clear lt_B5
  have ltw_B7 := lt_w
  clear lt_w hxa
  try rw [← eb7]
  rw [← eb7] at g7
  generalize (w2.alloc (.cells #[.int .i64 a.hops[k].asn, .int .i64 a.hops[k].ing, .int .i64 a.hops[k].eg, .int .i64 a.hops[k].exp, .int .i64 a.hops[k].mac] 108)) = wb at B3 B4 B5 B7 RH s ⊢
  clear eb7
  obtain ⟨x, hx⟩ : ∃ x : Hop, x = a.hops[k] := ⟨_, rfl⟩
  rw [← hx] at B7
  clear hx
  have cb_B3 := blk3 B3
  have cb_B4 := blk3 B4
  have cb_B5 := blk3 B5
  have cb_B7 := blk5 B7
  go_wp2_with fail
  clear cb_B3 cb_B4 cb_B5 cb_B7
  have hbs := s.x.size
  refine (s_l1Below g 9 _ _ _ s.c).mono ?_
  rintro e w3 ⟨q, rfl, hq0, hq1, hcq, hzq⟩
  replace B3 := hzq.blkS B3 (by unfold at1; omega)
  replace B4 := hzq.blkS B4 (by unfold at1; omega)
  replace B5 := hzq.blkS B5 (by unfold at1; omega)
  replace B7 := hzq.blkS B7 (by unfold at1; omega)
  replace RH := RH.at1 hzq hgw
  replace s := s.draw hcq hzq
  clear hcq hzq hbs
  have hq2 : q < 9 := by omega
  clear hq1
  have RHn : ∀ b, (Value.slice (some ⟨gh, 0, none⟩) a.hops.length ch).ownBlock = some b → ¬ at1 b7 b := fun b hb e => by
   have h1 : gh = b := by simpa [Value.ownBlock] using hb
   have h2 : b = b7 := e
   omega
  by_cases q0 : q = 0
  ·
   subst q0
   obtain ⟨wh, hwh, hbh, hch⟩ := one_set B7 3 (.int .i64 (wrap64 (x.exp + 1)))
   simp only [List.setIfInBounds_toArray, List.set_cons_succ, List.set_cons_zero] at hbh
   have HWH := Lib.hid hwh
   clear hwh
   have ff := fr_of B7 3
   have cb_B3 := blk3 B3
   have cb_B4 := blk3 B4
   have cb_B5 := blk3 B5
   have cb_B7 := blk5 B7
   go_upto_region 24 with (fail)
   rw [← HWH.out]
   clear HWH ff cb_B3 cb_B4 cb_B5 cb_B7
   replace B3 := hch.blkS B3 (by unfold at1; omega)
   replace B4 := hch.blkS B4 (by unfold at1; omega)
   replace B5 := hch.blkS B5 (by unfold at1; omega)
   replace RH := RH.chg hch (fun b hb e => RHn b hb e)
   replace B7 := hbh
   replace s := s.put hch (fun i hi => by have h1 : i = b7 := hi; omega)
   clear hbh hch
   obtain ⟨hn, hgn⟩ := Hop.own_set RH k hk2 ⟨x.asn, x.ing, x.eg, (wrap64 (x.exp + 1)), x.mac⟩
   have hSn : Chg (fun b => b = gh) wh _ := Chg.ofGrown hgn (fun b h => by cases h; rfl)
   obtain ⟨wn, hwn⟩ : ∃ wn : World, wn = (((((wh.setCell ⟨gh, k * 5, none⟩ (.int .i64 x.asn)).setCell ⟨gh, k * 5 + 1, none⟩ (.int .i64 x.ing)).setCell ⟨gh, k * 5 + 2, none⟩ (.int .i64 x.eg)).setCell ⟨gh, k * 5 + 3, none⟩ (.int .i64 (wrap64 (x.exp + 1)))).setCell ⟨gh, k * 5 + 4, none⟩ (.int .i64 x.mac)) := ⟨_, rfl⟩
   have HWN := Lib.hid hwn
   have hng : ∀ b, b = gh → w.heap.size ≤ b := fun b h => by subst h; exact (RH.block b rfl).1
   rw [← hwn] at hn hSn
   clear hwn hgn
   have ck := Hop.own_at RH k hk2
   have fk0 := RH.free (k * 5)
   have fk1 := RH.free (k * 5 + 1)
   have fk2 := RH.free (k * 5 + 2)
   have fk3 := RH.free (k * 5 + 3)
   have fk4 := RH.free (k * 5 + 4)
   have cb_B3 := blk3 B3
   have cb_B4 := blk3 B4
   have cb_B5 := blk3 B5
   have cb_B7 := blk5 B7
   go_upto_region 25 with (fail)
   clear cb_B3 cb_B4 cb_B5 cb_B7
   rw [← HWN.out]
   clear ck fk0 fk1 fk2 fk3 fk4 HWN
   have nx : w.heap.size ≤ w.heap.size := Nat.le_refl _
   replace B3 := hSn.blkS B3 (fun e => RH.ne B3 (by decide) (by rw [e]; rfl))
   clear nx
   have nx : w.heap.size ≤ w.heap.size := Nat.le_refl _
   replace B4 := hSn.blkS B4 (fun e => RH.ne B4 (by decide) (by rw [e]; rfl))
   clear nx
   have nx : w.heap.size ≤ w.heap.size := Nat.le_refl _
   replace B5 := hSn.blkS B5 (fun e => RH.ne B5 (by decide) (by rw [e]; rfl))
   clear nx
   clear B7
   replace s := s.put hSn hng
   replace RH := hn
   clear hn hSn hng
   obtain ⟨wpr, hwr, hbr, hcr⟩ := three_set B4 (.int .i64 a.ts) (.int .i64 a.beta) ((.slice (some ⟨gh, 0, none⟩) a.hops.length ch))
   have HWr := Lib.hid hwr
   clear hwr
   have ff0 := fr_of B4 0
   have ff1 := fr_of B4 1
   have ff2 := fr_of B4 2
   have cb_B3 := blk3 B3
   have cb_B4 := blk3 B4
   have cb_B5 := blk3 B5
   go_wp2_with fail
   rw [← HWr.out]
   clear HWr ff0 ff1 ff2 cb_B3 cb_B4 cb_B5
   replace RH := RH.chg hcr (fun k hk e => RH.ne B4 (by decide) (by rw [hk]; exact congrArg some e))
   replace B3 := hcr.blkS B3 (by unfold at1; omega)
   replace B5 := hcr.blkS B5 (by unfold at1; omega)
   replace B4 := hbr
   clear hbr
   replace s := s.put hcr (fun i hi => by have h1 : i = (w.heap.size + 1) := hi; omega)
   clear hcr
   have cC := blk3 B4
   refine bodyPost_ret (v := .agg #[.int .i64 a.ts, .int .i64 a.beta, (.slice (some ⟨gh, 0, none⟩) a.hops.length ch)]) (by simp [results, Try.results46, go_sem, cC]) rfl ?_
   exact ⟨_, ⟨a.ts, a.beta, a.hops.set k ⟨x.asn, x.ing, x.eg, (wrap64 (x.exp + 1)), x.mac⟩⟩, rfl, by simp, RH, s.c, s.x⟩
  ·
   have q0f : (q == 0) = false := by rw [beq_eq_false_iff_ne]; exact q0
   by_cases q1 : q = 1
   ·
    subst q1
    obtain ⟨wh, hwh, hbh, hch⟩ := one_set B7 4 (.int .i64 ((wrap64 (x.mac + 1)).tmod 2147483647))
    simp only [List.setIfInBounds_toArray, List.set_cons_succ, List.set_cons_zero] at hbh
    have HWH := Lib.hid hwh
    clear hwh
    have ff := fr_of B7 4
    have cb_B3 := blk3 B3
    have cb_B4 := blk3 B4
    have cb_B5 := blk3 B5
    have cb_B7 := blk5 B7
    go_upto_region 24 with (fail)
    rw [← HWH.out]
    clear HWH ff cb_B3 cb_B4 cb_B5 cb_B7
    replace B3 := hch.blkS B3 (by unfold at1; omega)
    replace B4 := hch.blkS B4 (by unfold at1; omega)
    replace B5 := hch.blkS B5 (by unfold at1; omega)
    replace RH := RH.chg hch (fun b hb e => RHn b hb e)
    replace B7 := hbh
    replace s := s.put hch (fun i hi => by have h1 : i = b7 := hi; omega)
    clear hbh hch
    obtain ⟨hn, hgn⟩ := Hop.own_set RH k hk2 ⟨x.asn, x.ing, x.eg, x.exp, ((wrap64 (x.mac + 1)).tmod 2147483647)⟩
    have hSn : Chg (fun b => b = gh) wh _ := Chg.ofGrown hgn (fun b h => by cases h; rfl)
    obtain ⟨wn, hwn⟩ : ∃ wn : World, wn = (((((wh.setCell ⟨gh, k * 5, none⟩ (.int .i64 x.asn)).setCell ⟨gh, k * 5 + 1, none⟩ (.int .i64 x.ing)).setCell ⟨gh, k * 5 + 2, none⟩ (.int .i64 x.eg)).setCell ⟨gh, k * 5 + 3, none⟩ (.int .i64 x.exp)).setCell ⟨gh, k * 5 + 4, none⟩ (.int .i64 ((wrap64 (x.mac + 1)).tmod 2147483647))) := ⟨_, rfl⟩
    have HWN := Lib.hid hwn
    have hng : ∀ b, b = gh → w.heap.size ≤ b := fun b h => by subst h; exact (RH.block b rfl).1
    rw [← hwn] at hn hSn
    clear hwn hgn
    have ck := Hop.own_at RH k hk2
    have fk0 := RH.free (k * 5)
    have fk1 := RH.free (k * 5 + 1)
    have fk2 := RH.free (k * 5 + 2)
    have fk3 := RH.free (k * 5 + 3)
    have fk4 := RH.free (k * 5 + 4)
    have cb_B3 := blk3 B3
    have cb_B4 := blk3 B4
    have cb_B5 := blk3 B5
    have cb_B7 := blk5 B7
    go_upto_region 25 with (fail)
    clear cb_B3 cb_B4 cb_B5 cb_B7
    rw [← HWN.out]
    clear ck fk0 fk1 fk2 fk3 fk4 HWN
    have nx : w.heap.size ≤ w.heap.size := Nat.le_refl _
    replace B3 := hSn.blkS B3 (fun e => RH.ne B3 (by decide) (by rw [e]; rfl))
    clear nx
    have nx : w.heap.size ≤ w.heap.size := Nat.le_refl _
    replace B4 := hSn.blkS B4 (fun e => RH.ne B4 (by decide) (by rw [e]; rfl))
    clear nx
    have nx : w.heap.size ≤ w.heap.size := Nat.le_refl _
    replace B5 := hSn.blkS B5 (fun e => RH.ne B5 (by decide) (by rw [e]; rfl))
    clear nx
    clear B7
    replace s := s.put hSn hng
    replace RH := hn
    clear hn hSn hng
    obtain ⟨wpr, hwr, hbr, hcr⟩ := three_set B4 (.int .i64 a.ts) (.int .i64 a.beta) ((.slice (some ⟨gh, 0, none⟩) a.hops.length ch))
    have HWr := Lib.hid hwr
    clear hwr
    have ff0 := fr_of B4 0
    have ff1 := fr_of B4 1
    have ff2 := fr_of B4 2
    have cb_B3 := blk3 B3
    have cb_B4 := blk3 B4
    have cb_B5 := blk3 B5
    go_wp2_with fail
    rw [← HWr.out]
    clear HWr ff0 ff1 ff2 cb_B3 cb_B4 cb_B5
    replace RH := RH.chg hcr (fun k hk e => RH.ne B4 (by decide) (by rw [hk]; exact congrArg some e))
    replace B3 := hcr.blkS B3 (by unfold at1; omega)
    replace B5 := hcr.blkS B5 (by unfold at1; omega)
    replace B4 := hbr
    clear hbr
    replace s := s.put hcr (fun i hi => by have h1 : i = (w.heap.size + 1) := hi; omega)
    clear hcr
    have cC := blk3 B4
    refine bodyPost_ret (v := .agg #[.int .i64 a.ts, .int .i64 a.beta, (.slice (some ⟨gh, 0, none⟩) a.hops.length ch)]) (by simp [results, Try.results46, go_sem, cC]) rfl ?_
    exact ⟨_, ⟨a.ts, a.beta, a.hops.set k ⟨x.asn, x.ing, x.eg, x.exp, ((wrap64 (x.mac + 1)).tmod 2147483647)⟩⟩, rfl, by simp, RH, s.c, s.x⟩
   ·
    have q1f : (q == 1) = false := by rw [beq_eq_false_iff_ne]; exact q1
    by_cases q2 : q = 2
    ·
     subst q2
     have cb_B3 := blk3 B3
     have cb_B4 := blk3 B4
     have cb_B5 := blk3 B5
     have cb_B7 := blk5 B7
     go_wp2_with fail
     clear cb_B3 cb_B4 cb_B5 cb_B7
     have hbs := s.x.size
     refine (s_l1Below g 7 _ _ _ s.c).mono ?_
     rintro e w4 ⟨y, rfl, hy0, hy1, hcq, hzq⟩
     replace B3 := hzq.blkS B3 (by unfold at1; omega)
     replace B4 := hzq.blkS B4 (by unfold at1; omega)
     replace B5 := hzq.blkS B5 (by unfold at1; omega)
     replace B7 := hzq.blkS B7 (by unfold at1; omega)
     replace RH := RH.at1 hzq hgw
     replace s := s.draw hcq hzq
     clear hcq hzq hbs
     obtain ⟨wh, hwh, hbh, hch⟩ := one_set B7 2 (.int .i64 y)
     simp only [List.setIfInBounds_toArray, List.set_cons_succ, List.set_cons_zero] at hbh
     have HWH := Lib.hid hwh
     clear hwh
     have ff := fr_of B7 2
     have cb_B3 := blk3 B3
     have cb_B4 := blk3 B4
     have cb_B5 := blk3 B5
     have cb_B7 := blk5 B7
     go_upto_region 24 with (fail)
     rw [← HWH.out]
     clear HWH ff cb_B3 cb_B4 cb_B5 cb_B7
     replace B3 := hch.blkS B3 (by unfold at1; omega)
     replace B4 := hch.blkS B4 (by unfold at1; omega)
     replace B5 := hch.blkS B5 (by unfold at1; omega)
     replace RH := RH.chg hch (fun b hb e => RHn b hb e)
     replace B7 := hbh
     replace s := s.put hch (fun i hi => by have h1 : i = b7 := hi; omega)
     clear hbh hch
     obtain ⟨hn, hgn⟩ := Hop.own_set RH k hk2 ⟨x.asn, x.ing, y, x.exp, x.mac⟩
     have hSn : Chg (fun b => b = gh) wh _ := Chg.ofGrown hgn (fun b h => by cases h; rfl)
     obtain ⟨wn, hwn⟩ : ∃ wn : World, wn = (((((wh.setCell ⟨gh, k * 5, none⟩ (.int .i64 x.asn)).setCell ⟨gh, k * 5 + 1, none⟩ (.int .i64 x.ing)).setCell ⟨gh, k * 5 + 2, none⟩ (.int .i64 y)).setCell ⟨gh, k * 5 + 3, none⟩ (.int .i64 x.exp)).setCell ⟨gh, k * 5 + 4, none⟩ (.int .i64 x.mac)) := ⟨_, rfl⟩
     have HWN := Lib.hid hwn
     have hng : ∀ b, b = gh → w.heap.size ≤ b := fun b h => by subst h; exact (RH.block b rfl).1
     rw [← hwn] at hn hSn
     clear hwn hgn
     have ck := Hop.own_at RH k hk2
     have fk0 := RH.free (k * 5)
     have fk1 := RH.free (k * 5 + 1)
     have fk2 := RH.free (k * 5 + 2)
     have fk3 := RH.free (k * 5 + 3)
     have fk4 := RH.free (k * 5 + 4)
     have cb_B3 := blk3 B3
     have cb_B4 := blk3 B4
     have cb_B5 := blk3 B5
     have cb_B7 := blk5 B7
     go_upto_region 25 with (fail)
     clear cb_B3 cb_B4 cb_B5 cb_B7
     rw [← HWN.out]
     clear ck fk0 fk1 fk2 fk3 fk4 HWN
     have nx : w.heap.size ≤ w.heap.size := Nat.le_refl _
     replace B3 := hSn.blkS B3 (fun e => RH.ne B3 (by decide) (by rw [e]; rfl))
     clear nx
     have nx : w.heap.size ≤ w.heap.size := Nat.le_refl _
     replace B4 := hSn.blkS B4 (fun e => RH.ne B4 (by decide) (by rw [e]; rfl))
     clear nx
     have nx : w.heap.size ≤ w.heap.size := Nat.le_refl _
     replace B5 := hSn.blkS B5 (fun e => RH.ne B5 (by decide) (by rw [e]; rfl))
     clear nx
     clear B7
     replace s := s.put hSn hng
     replace RH := hn
     clear hn hSn hng
     obtain ⟨wpr, hwr, hbr, hcr⟩ := three_set B4 (.int .i64 a.ts) (.int .i64 a.beta) ((.slice (some ⟨gh, 0, none⟩) a.hops.length ch))
     have HWr := Lib.hid hwr
     clear hwr
     have ff0 := fr_of B4 0
     have ff1 := fr_of B4 1
     have ff2 := fr_of B4 2
     have cb_B3 := blk3 B3
     have cb_B4 := blk3 B4
     have cb_B5 := blk3 B5
     go_wp2_with fail
     rw [← HWr.out]
     clear HWr ff0 ff1 ff2 cb_B3 cb_B4 cb_B5
     replace RH := RH.chg hcr (fun k hk e => RH.ne B4 (by decide) (by rw [hk]; exact congrArg some e))
     replace B3 := hcr.blkS B3 (by unfold at1; omega)
     replace B5 := hcr.blkS B5 (by unfold at1; omega)
     replace B4 := hbr
     clear hbr
     replace s := s.put hcr (fun i hi => by have h1 : i = (w.heap.size + 1) := hi; omega)
     clear hcr
     have cC := blk3 B4
     refine bodyPost_ret (v := .agg #[.int .i64 a.ts, .int .i64 a.beta, (.slice (some ⟨gh, 0, none⟩) a.hops.length ch)]) (by simp [results, Try.results46, go_sem, cC]) rfl ?_
     exact ⟨_, ⟨a.ts, a.beta, a.hops.set k ⟨x.asn, x.ing, y, x.exp, x.mac⟩⟩, rfl, by simp, RH, s.c, s.x⟩
    ·
     have q2f : (q == 2) = false := by rw [beq_eq_false_iff_ne]; exact q2
     by_cases q3 : q = 3
     ·
      subst q3
      have cb_B3 := blk3 B3
      have cb_B4 := blk3 B4
      have cb_B5 := blk3 B5
      have cb_B7 := blk5 B7
      go_wp2_with fail
      clear cb_B3 cb_B4 cb_B5 cb_B7
      have hbs := s.x.size
      refine (s_l1Below g 7 _ _ _ s.c).mono ?_
      rintro e w5 ⟨y, rfl, hy0, hy1, hcq, hzq⟩
      replace B3 := hzq.blkS B3 (by unfold at1; omega)
      replace B4 := hzq.blkS B4 (by unfold at1; omega)
      replace B5 := hzq.blkS B5 (by unfold at1; omega)
      replace B7 := hzq.blkS B7 (by unfold at1; omega)
      replace RH := RH.at1 hzq hgw
      replace s := s.draw hcq hzq
      clear hcq hzq hbs
      obtain ⟨wh, hwh, hbh, hch⟩ := one_set B7 1 (.int .i64 y)
      simp only [List.setIfInBounds_toArray, List.set_cons_succ, List.set_cons_zero] at hbh
      have HWH := Lib.hid hwh
      clear hwh
      have ff := fr_of B7 1
      have cb_B3 := blk3 B3
      have cb_B4 := blk3 B4
      have cb_B5 := blk3 B5
      have cb_B7 := blk5 B7
      go_upto_region 24 with (fail)
      rw [← HWH.out]
      clear HWH ff cb_B3 cb_B4 cb_B5 cb_B7
      replace B3 := hch.blkS B3 (by unfold at1; omega)
      replace B4 := hch.blkS B4 (by unfold at1; omega)
      replace B5 := hch.blkS B5 (by unfold at1; omega)
      replace RH := RH.chg hch (fun b hb e => RHn b hb e)
      replace B7 := hbh
      replace s := s.put hch (fun i hi => by have h1 : i = b7 := hi; omega)
      clear hbh hch
      obtain ⟨hn, hgn⟩ := Hop.own_set RH k hk2 ⟨x.asn, y, x.eg, x.exp, x.mac⟩
      have hSn : Chg (fun b => b = gh) wh _ := Chg.ofGrown hgn (fun b h => by cases h; rfl)
      obtain ⟨wn, hwn⟩ : ∃ wn : World, wn = (((((wh.setCell ⟨gh, k * 5, none⟩ (.int .i64 x.asn)).setCell ⟨gh, k * 5 + 1, none⟩ (.int .i64 y)).setCell ⟨gh, k * 5 + 2, none⟩ (.int .i64 x.eg)).setCell ⟨gh, k * 5 + 3, none⟩ (.int .i64 x.exp)).setCell ⟨gh, k * 5 + 4, none⟩ (.int .i64 x.mac)) := ⟨_, rfl⟩
      have HWN := Lib.hid hwn
      have hng : ∀ b, b = gh → w.heap.size ≤ b := fun b h => by subst h; exact (RH.block b rfl).1
      rw [← hwn] at hn hSn
      clear hwn hgn
      have ck := Hop.own_at RH k hk2
      have fk0 := RH.free (k * 5)
      have fk1 := RH.free (k * 5 + 1)
      have fk2 := RH.free (k * 5 + 2)
      have fk3 := RH.free (k * 5 + 3)
      have fk4 := RH.free (k * 5 + 4)
      have cb_B3 := blk3 B3
      have cb_B4 := blk3 B4
      have cb_B5 := blk3 B5
      have cb_B7 := blk5 B7
      go_upto_region 25 with (fail)
      clear cb_B3 cb_B4 cb_B5 cb_B7
      rw [← HWN.out]
      clear ck fk0 fk1 fk2 fk3 fk4 HWN
      have nx : w.heap.size ≤ w.heap.size := Nat.le_refl _
      replace B3 := hSn.blkS B3 (fun e => RH.ne B3 (by decide) (by rw [e]; rfl))
      clear nx
      have nx : w.heap.size ≤ w.heap.size := Nat.le_refl _
      replace B4 := hSn.blkS B4 (fun e => RH.ne B4 (by decide) (by rw [e]; rfl))
      clear nx
      have nx : w.heap.size ≤ w.heap.size := Nat.le_refl _
      replace B5 := hSn.blkS B5 (fun e => RH.ne B5 (by decide) (by rw [e]; rfl))
      clear nx
      clear B7
      replace s := s.put hSn hng
      replace RH := hn
      clear hn hSn hng
      obtain ⟨wpr, hwr, hbr, hcr⟩ := three_set B4 (.int .i64 a.ts) (.int .i64 a.beta) ((.slice (some ⟨gh, 0, none⟩) a.hops.length ch))
      have HWr := Lib.hid hwr
      clear hwr
      have ff0 := fr_of B4 0
      have ff1 := fr_of B4 1
      have ff2 := fr_of B4 2
      have cb_B3 := blk3 B3
      have cb_B4 := blk3 B4
      have cb_B5 := blk3 B5
      go_wp2_with fail
      rw [← HWr.out]
      clear HWr ff0 ff1 ff2 cb_B3 cb_B4 cb_B5
      replace RH := RH.chg hcr (fun k hk e => RH.ne B4 (by decide) (by rw [hk]; exact congrArg some e))
      replace B3 := hcr.blkS B3 (by unfold at1; omega)
      replace B5 := hcr.blkS B5 (by unfold at1; omega)
      replace B4 := hbr
      clear hbr
      replace s := s.put hcr (fun i hi => by have h1 : i = (w.heap.size + 1) := hi; omega)
      clear hcr
      have cC := blk3 B4
      refine bodyPost_ret (v := .agg #[.int .i64 a.ts, .int .i64 a.beta, (.slice (some ⟨gh, 0, none⟩) a.hops.length ch)]) (by simp [results, Try.results46, go_sem, cC]) rfl ?_
      exact ⟨_, ⟨a.ts, a.beta, a.hops.set k ⟨x.asn, y, x.eg, x.exp, x.mac⟩⟩, rfl, by simp, RH, s.c, s.x⟩
     ·
      have q3f : (q == 3) = false := by rw [beq_eq_false_iff_ne]; exact q3
      by_cases q4 : q = 4
      ·
       subst q4
       have cb_B3 := blk3 B3
       have cb_B4 := blk3 B4
       have cb_B5 := blk3 B5
       have cb_B7 := blk5 B7
       go_wp2_with fail
       clear cb_B3 cb_B4 cb_B5 cb_B7
       have hbs := s.x.size
       refine (s_l1Below g 8 _ _ _ s.c).mono ?_
       rintro e w6 ⟨y, rfl, hy0, hy1, hcq, hzq⟩
       replace B3 := hzq.blkS B3 (by unfold at1; omega)
       replace B4 := hzq.blkS B4 (by unfold at1; omega)
       replace B5 := hzq.blkS B5 (by unfold at1; omega)
       replace B7 := hzq.blkS B7 (by unfold at1; omega)
       replace RH := RH.at1 hzq hgw
       replace s := s.draw hcq hzq
       clear hcq hzq hbs
       obtain ⟨wh, hwh, hbh, hch⟩ := one_set B7 0 (.int .i64 y)
       simp only [List.setIfInBounds_toArray, List.set_cons_zero] at hbh
       have HWH := Lib.hid hwh
       clear hwh
       have ff := fr_of B7 0
       have cb_B3 := blk3 B3
       have cb_B4 := blk3 B4
       have cb_B5 := blk3 B5
       have cb_B7 := blk5 B7
       go_upto_region 24 with (fail)
       rw [← HWH.out]
       clear HWH ff cb_B3 cb_B4 cb_B5 cb_B7
       replace B3 := hch.blkS B3 (by unfold at1; omega)
       replace B4 := hch.blkS B4 (by unfold at1; omega)
       replace B5 := hch.blkS B5 (by unfold at1; omega)
       replace RH := RH.chg hch (fun b hb e => RHn b hb e)
       replace B7 := hbh
       replace s := s.put hch (fun i hi => by have h1 : i = b7 := hi; omega)
       clear hbh hch
       obtain ⟨hn, hgn⟩ := Hop.own_set RH k hk2 ⟨y, x.ing, x.eg, x.exp, x.mac⟩
       have hSn : Chg (fun b => b = gh) wh _ := Chg.ofGrown hgn (fun b h => by cases h; rfl)
       obtain ⟨wn, hwn⟩ : ∃ wn : World, wn = (((((wh.setCell ⟨gh, k * 5, none⟩ (.int .i64 y)).setCell ⟨gh, k * 5 + 1, none⟩ (.int .i64 x.ing)).setCell ⟨gh, k * 5 + 2, none⟩ (.int .i64 x.eg)).setCell ⟨gh, k * 5 + 3, none⟩ (.int .i64 x.exp)).setCell ⟨gh, k * 5 + 4, none⟩ (.int .i64 x.mac)) := ⟨_, rfl⟩
       have HWN := Lib.hid hwn
       have hng : ∀ b, b = gh → w.heap.size ≤ b := fun b h => by subst h; exact (RH.block b rfl).1
       rw [← hwn] at hn hSn
       clear hwn hgn
       have ck := Hop.own_at RH k hk2
       have fk0 := RH.free (k * 5)
       have fk1 := RH.free (k * 5 + 1)
       have fk2 := RH.free (k * 5 + 2)
       have fk3 := RH.free (k * 5 + 3)
       have fk4 := RH.free (k * 5 + 4)
       have cb_B3 := blk3 B3
       have cb_B4 := blk3 B4
       have cb_B5 := blk3 B5
       have cb_B7 := blk5 B7
       go_upto_region 25 with (fail)
       clear cb_B3 cb_B4 cb_B5 cb_B7
       rw [← HWN.out]
       clear ck fk0 fk1 fk2 fk3 fk4 HWN
       have nx : w.heap.size ≤ w.heap.size := Nat.le_refl _
       replace B3 := hSn.blkS B3 (fun e => RH.ne B3 (by decide) (by rw [e]; rfl))
       clear nx
       have nx : w.heap.size ≤ w.heap.size := Nat.le_refl _
       replace B4 := hSn.blkS B4 (fun e => RH.ne B4 (by decide) (by rw [e]; rfl))
       clear nx
       have nx : w.heap.size ≤ w.heap.size := Nat.le_refl _
       replace B5 := hSn.blkS B5 (fun e => RH.ne B5 (by decide) (by rw [e]; rfl))
       clear nx
       clear B7
       replace s := s.put hSn hng
       replace RH := hn
       clear hn hSn hng
       obtain ⟨wpr, hwr, hbr, hcr⟩ := three_set B4 (.int .i64 a.ts) (.int .i64 a.beta) ((.slice (some ⟨gh, 0, none⟩) a.hops.length ch))
       have HWr := Lib.hid hwr
       clear hwr
       have ff0 := fr_of B4 0
       have ff1 := fr_of B4 1
       have ff2 := fr_of B4 2
       have cb_B3 := blk3 B3
       have cb_B4 := blk3 B4
       have cb_B5 := blk3 B5
       go_wp2_with fail
       rw [← HWr.out]
       clear HWr ff0 ff1 ff2 cb_B3 cb_B4 cb_B5
       replace RH := RH.chg hcr (fun k hk e => RH.ne B4 (by decide) (by rw [hk]; exact congrArg some e))
       replace B3 := hcr.blkS B3 (by unfold at1; omega)
       replace B5 := hcr.blkS B5 (by unfold at1; omega)
       replace B4 := hbr
       clear hbr
       replace s := s.put hcr (fun i hi => by have h1 : i = (w.heap.size + 1) := hi; omega)
       clear hcr
       have cC := blk3 B4
       refine bodyPost_ret (v := .agg #[.int .i64 a.ts, .int .i64 a.beta, (.slice (some ⟨gh, 0, none⟩) a.hops.length ch)]) (by simp [results, Try.results46, go_sem, cC]) rfl ?_
       exact ⟨_, ⟨a.ts, a.beta, a.hops.set k ⟨y, x.ing, x.eg, x.exp, x.mac⟩⟩, rfl, by simp, RH, s.c, s.x⟩
      ·
       have q4f : (q == 4) = false := by rw [beq_eq_false_iff_ne]; exact q4
       by_cases q5 : q = 5
       ·
        subst q5
        obtain ⟨wh, hwh, hbh, hch⟩ := one_set B5 1 (.int .i64 (wrap64 (a.beta + 1)))
        simp only [List.setIfInBounds_toArray, List.set_cons_succ, List.set_cons_zero] at hbh
        have HWH := Lib.hid hwh
        clear hwh
        have ff := fr_of B5 1
        have cb_B3 := blk3 B3
        have cb_B4 := blk3 B4
        have cb_B5 := blk3 B5
        have cb_B7 := blk5 B7
        go_upto_region 24 with (fail)
        rw [← HWH.out]
        clear HWH ff cb_B3 cb_B4 cb_B5 cb_B7
        replace B3 := hch.blkS B3 (by unfold at1; omega)
        replace B4 := hch.blkS B4 (by unfold at1; omega)
        replace B7 := hch.blkS B7 (by unfold at1; omega)
        replace RH := RH.chg hch (fun b hb e => RH.ne B5 (by decide) (by rw [hb]; exact congrArg some e))
        replace B5 := hbh
        replace s := s.put hch (fun i hi => by have h1 : i = b5 := hi; omega)
        clear hbh hch
        obtain ⟨hn, hgn⟩ := Hop.own_set RH k hk2 ⟨x.asn, x.ing, x.eg, x.exp, x.mac⟩
        have hSn : Chg (fun b => b = gh) wh _ := Chg.ofGrown hgn (fun b h => by cases h; rfl)
        obtain ⟨wn, hwn⟩ : ∃ wn : World, wn = (((((wh.setCell ⟨gh, k * 5, none⟩ (.int .i64 x.asn)).setCell ⟨gh, k * 5 + 1, none⟩ (.int .i64 x.ing)).setCell ⟨gh, k * 5 + 2, none⟩ (.int .i64 x.eg)).setCell ⟨gh, k * 5 + 3, none⟩ (.int .i64 x.exp)).setCell ⟨gh, k * 5 + 4, none⟩ (.int .i64 x.mac)) := ⟨_, rfl⟩
        have HWN := Lib.hid hwn
        have hng : ∀ b, b = gh → w.heap.size ≤ b := fun b h => by subst h; exact (RH.block b rfl).1
        rw [← hwn] at hn hSn
        clear hwn hgn
        have ck := Hop.own_at RH k hk2
        have fk0 := RH.free (k * 5)
        have fk1 := RH.free (k * 5 + 1)
        have fk2 := RH.free (k * 5 + 2)
        have fk3 := RH.free (k * 5 + 3)
        have fk4 := RH.free (k * 5 + 4)
        have cb_B3 := blk3 B3
        have cb_B4 := blk3 B4
        have cb_B5 := blk3 B5
        have cb_B7 := blk5 B7
        go_upto_region 25 with (fail)
        clear cb_B3 cb_B4 cb_B5 cb_B7
        rw [← HWN.out]
        clear ck fk0 fk1 fk2 fk3 fk4 HWN
        have nx : w.heap.size ≤ w.heap.size := Nat.le_refl _
        replace B3 := hSn.blkS B3 (fun e => RH.ne B3 (by decide) (by rw [e]; rfl))
        clear nx
        have nx : w.heap.size ≤ w.heap.size := Nat.le_refl _
        replace B4 := hSn.blkS B4 (fun e => RH.ne B4 (by decide) (by rw [e]; rfl))
        clear nx
        have nx : w.heap.size ≤ w.heap.size := Nat.le_refl _
        replace B5 := hSn.blkS B5 (fun e => RH.ne B5 (by decide) (by rw [e]; rfl))
        clear nx
        clear B7
        replace s := s.put hSn hng
        replace RH := hn
        clear hn hSn hng
        obtain ⟨wpr, hwr, hbr, hcr⟩ := three_set B4 (.int .i64 a.ts) (.int .i64 (wrap64 (a.beta + 1))) ((.slice (some ⟨gh, 0, none⟩) a.hops.length ch))
        have HWr := Lib.hid hwr
        clear hwr
        have ff0 := fr_of B4 0
        have ff1 := fr_of B4 1
        have ff2 := fr_of B4 2
        have cb_B3 := blk3 B3
        have cb_B4 := blk3 B4
        have cb_B5 := blk3 B5
        go_wp2_with fail
        rw [← HWr.out]
        clear HWr ff0 ff1 ff2 cb_B3 cb_B4 cb_B5
        replace RH := RH.chg hcr (fun k hk e => RH.ne B4 (by decide) (by rw [hk]; exact congrArg some e))
        replace B3 := hcr.blkS B3 (by unfold at1; omega)
        replace B5 := hcr.blkS B5 (by unfold at1; omega)
        replace B4 := hbr
        clear hbr
        replace s := s.put hcr (fun i hi => by have h1 : i = (w.heap.size + 1) := hi; omega)
        clear hcr
        have cC := blk3 B4
        refine bodyPost_ret (v := .agg #[.int .i64 a.ts, .int .i64 (wrap64 (a.beta + 1)), (.slice (some ⟨gh, 0, none⟩) a.hops.length ch)]) (by simp [results, Try.results46, go_sem, cC]) rfl ?_
        exact ⟨_, ⟨a.ts, (wrap64 (a.beta + 1)), a.hops.set k ⟨x.asn, x.ing, x.eg, x.exp, x.mac⟩⟩, rfl, by simp, RH, s.c, s.x⟩
       ·
        have q5f : (q == 5) = false := by rw [beq_eq_false_iff_ne]; exact q5
        by_cases q6 : q = 6
        ·
         subst q6
         obtain ⟨wh, hwh, hbh, hch⟩ := one_set B5 0 (.int .i64 (wrap64 (a.ts + 1)))
         simp only [List.setIfInBounds_toArray, List.set_cons_zero] at hbh
         have HWH := Lib.hid hwh
         clear hwh
         have ff := fr_of B5 0
         have cb_B3 := blk3 B3
         have cb_B4 := blk3 B4
         have cb_B5 := blk3 B5
         have cb_B7 := blk5 B7
         go_upto_region 24 with (fail)
         rw [← HWH.out]
         clear HWH ff cb_B3 cb_B4 cb_B5 cb_B7
         replace B3 := hch.blkS B3 (by unfold at1; omega)
         replace B4 := hch.blkS B4 (by unfold at1; omega)
         replace B7 := hch.blkS B7 (by unfold at1; omega)
         replace RH := RH.chg hch (fun b hb e => RH.ne B5 (by decide) (by rw [hb]; exact congrArg some e))
         replace B5 := hbh
         replace s := s.put hch (fun i hi => by have h1 : i = b5 := hi; omega)
         clear hbh hch
         obtain ⟨hn, hgn⟩ := Hop.own_set RH k hk2 ⟨x.asn, x.ing, x.eg, x.exp, x.mac⟩
         have hSn : Chg (fun b => b = gh) wh _ := Chg.ofGrown hgn (fun b h => by cases h; rfl)
         obtain ⟨wn, hwn⟩ : ∃ wn : World, wn = (((((wh.setCell ⟨gh, k * 5, none⟩ (.int .i64 x.asn)).setCell ⟨gh, k * 5 + 1, none⟩ (.int .i64 x.ing)).setCell ⟨gh, k * 5 + 2, none⟩ (.int .i64 x.eg)).setCell ⟨gh, k * 5 + 3, none⟩ (.int .i64 x.exp)).setCell ⟨gh, k * 5 + 4, none⟩ (.int .i64 x.mac)) := ⟨_, rfl⟩
         have HWN := Lib.hid hwn
         have hng : ∀ b, b = gh → w.heap.size ≤ b := fun b h => by subst h; exact (RH.block b rfl).1
         rw [← hwn] at hn hSn
         clear hwn hgn
         have ck := Hop.own_at RH k hk2
         have fk0 := RH.free (k * 5)
         have fk1 := RH.free (k * 5 + 1)
         have fk2 := RH.free (k * 5 + 2)
         have fk3 := RH.free (k * 5 + 3)
         have fk4 := RH.free (k * 5 + 4)
         have cb_B3 := blk3 B3
         have cb_B4 := blk3 B4
         have cb_B5 := blk3 B5
         have cb_B7 := blk5 B7
         go_upto_region 25 with (fail)
         clear cb_B3 cb_B4 cb_B5 cb_B7
         rw [← HWN.out]
         clear ck fk0 fk1 fk2 fk3 fk4 HWN
         have nx : w.heap.size ≤ w.heap.size := Nat.le_refl _
         replace B3 := hSn.blkS B3 (fun e => RH.ne B3 (by decide) (by rw [e]; rfl))
         clear nx
         have nx : w.heap.size ≤ w.heap.size := Nat.le_refl _
         replace B4 := hSn.blkS B4 (fun e => RH.ne B4 (by decide) (by rw [e]; rfl))
         clear nx
         have nx : w.heap.size ≤ w.heap.size := Nat.le_refl _
         replace B5 := hSn.blkS B5 (fun e => RH.ne B5 (by decide) (by rw [e]; rfl))
         clear nx
         clear B7
         replace s := s.put hSn hng
         replace RH := hn
         clear hn hSn hng
         obtain ⟨wpr, hwr, hbr, hcr⟩ := three_set B4 (.int .i64 (wrap64 (a.ts + 1))) (.int .i64 a.beta) ((.slice (some ⟨gh, 0, none⟩) a.hops.length ch))
         have HWr := Lib.hid hwr
         clear hwr
         have ff0 := fr_of B4 0
         have ff1 := fr_of B4 1
         have ff2 := fr_of B4 2
         have cb_B3 := blk3 B3
         have cb_B4 := blk3 B4
         have cb_B5 := blk3 B5
         go_wp2_with fail
         rw [← HWr.out]
         clear HWr ff0 ff1 ff2 cb_B3 cb_B4 cb_B5
         replace RH := RH.chg hcr (fun k hk e => RH.ne B4 (by decide) (by rw [hk]; exact congrArg some e))
         replace B3 := hcr.blkS B3 (by unfold at1; omega)
         replace B5 := hcr.blkS B5 (by unfold at1; omega)
         replace B4 := hbr
         clear hbr
         replace s := s.put hcr (fun i hi => by have h1 : i = (w.heap.size + 1) := hi; omega)
         clear hcr
         have cC := blk3 B4
         refine bodyPost_ret (v := .agg #[.int .i64 (wrap64 (a.ts + 1)), .int .i64 a.beta, (.slice (some ⟨gh, 0, none⟩) a.hops.length ch)]) (by simp [results, Try.results46, go_sem, cC]) rfl ?_
         exact ⟨_, ⟨(wrap64 (a.ts + 1)), a.beta, a.hops.set k ⟨x.asn, x.ing, x.eg, x.exp, x.mac⟩⟩, rfl, by simp, RH, s.c, s.x⟩
        ·
         have q6f : (q == 6) = false := by rw [beq_eq_false_iff_ne]; exact q6
         by_cases q7 : q = 7
         ·
          subst q7
          have hcp := (RH.capLe).1
          have hkc : k + 1 = ch ∨ k + 1 < ch := by omega
          rcases hkc with hkc | hkc
          ·
           subst hkc
           have RS : RdS Hop.rep w3 (.slice (some ⟨gh, 0, none⟩) 0 0) (a.hops.drop (k + 1)) := (OwnF.rd (hf := Hop.flen) RH).sufE (by omega)
           have cb_B3 := blk3 B3
           have cb_B4 := blk3 B4
           have cb_B5 := blk3 B5
           have cb_B7 := blk5 B7
           go_upto_region 22 with (fail)
           clear cb_B3 cb_B4 cb_B5 cb_B7
           replace RS := RS.ext ((Ext.refl w3).drew)
           replace B3 := Ext.block ((Ext.refl w3).drew) B3
           replace B4 := Ext.block ((Ext.refl w3).drew) B4
           replace B5 := Ext.block ((Ext.refl w3).drew) B5
           replace B7 := Ext.block ((Ext.refl w3).drew) B7
           replace RH := RH.ext ((Ext.refl w3).drew)
           replace s := s.ext ((Ext.refl w3).drew)
           refine planStep (.blk [0, 1, 2, 3, 4, 5, 6, 7, 8] (.one 9 (.blk [10] (.one 11 .done)))) [9, 11] (by kernel_rfl) (by kernel_rfl) ?_
           generalize w3.drew = wdd at B3 B4 B5 B7 RH s RS ⊢
           have cB := blk3 B5
           refine blkStep (fun K HK => ?_)
           simp only [PK]
           go_wp2_with fail
           refine HK.out _ _ ?_
           clear HK K
           clear cB
           refine badStep (by kernel_rfl) (fun K HK => ?_)
           simp only [PK]
           have hdl : (a.hops.drop (k + 1)).length = a.hops.length - (k + 1) := List.length_drop
           have htl : (a.hops.take k).length = k := by simp; omega
           have RT := OwnF.trim Hop.flen RH k (by omega)
           refine appS EH Hop.flen Hop.one rfl _ _ rfl (a.hops.drop (k + 1)) rfl RT rfl RS (by omega) (by unfold maxLen; omega) s.x.size ?_
           intro v' w' ho' hg'
           have hSn : Chg (fun b => b = gh) wdd w' := Chg.ofGrown hg' (fun b h => by cases h; rfl)
           have hng : ∀ b, b = gh → w.heap.size ≤ b := fun b h => by subst h; exact (RH.block b rfl).1
           go_wp2_with fail
           refine HK.out _ _ ?_
           clear HK K hg' RS RT
           replace B3 := hSn.blkS B3 (fun e => RH.ne B3 (by decide) (by rw [e]; rfl))
           replace B4 := hSn.blkS B4 (fun e => RH.ne B4 (by decide) (by rw [e]; rfl))
           replace B5 := hSn.blkS B5 (fun e => RH.ne B5 (by decide) (by rw [e]; rfl))
           replace s := s.put hSn hng
           clear RH hSn hng B7
           generalize hlo : a.hops.take k ++ a.hops.drop (k + 1) = lo at ho'
           have hll : lo.length ≤ a.hops.length := by rw [← hlo]; simp; omega
           clear hlo htl hdl
           have RH := ho'
           clear ho'
           obtain ⟨o', c', rfl, _⟩ := (OwnF.rd (hf := Hop.flen) RH).shape
           refine blkStep (fun K HK => ?_)
           simp only [PK]
           go_wp2_with fail
           refine HK.out _ _ ?_
           clear HK K
           obtain ⟨wh, hwh, hbh, hch⟩ := one_set B5 2 (.slice o' lo.length c')
           simp only [List.setIfInBounds_toArray, List.set_cons_succ, List.set_cons_zero] at hbh
           have HWH := Lib.hid hwh
           clear hwh
           have ff := fr_of B5 2
           have cB := blk3 B5
           refine badStep (by kernel_rfl) (fun K HK => ?_)
           simp only [PK]
           go_wp2_with fail
           refine HK.out _ _ ?_
           clear HK K
           clear cB ff
           rw [← HWH.out]
           clear HWH
           refine doneStep (by kernel_rfl) ?_
           replace B3 := hch.blkS B3 (by unfold at1; omega)
           replace B4 := hch.blkS B4 (by unfold at1; omega)
           replace RH := RH.chg hch (fun b hb e => RH.ne B5 (by decide) (by rw [hb]; exact congrArg some e))
           replace B5 := hbh
           replace s := s.put hch (fun i hi => by have h1 : i = b5 := hi; omega)
           clear hbh hch
           obtain ⟨wpr, hwr, hbr, hcr⟩ := three_set B4 (.int .i64 a.ts) (.int .i64 a.beta) ((.slice o' lo.length c'))
           have HWr := Lib.hid hwr
           clear hwr
           have ff0 := fr_of B4 0
           have ff1 := fr_of B4 1
           have ff2 := fr_of B4 2
           have cb_B3 := blk3 B3
           have cb_B4 := blk3 B4
           have cb_B5 := blk3 B5
           go_wp2_with fail
           rw [← HWr.out]
           clear HWr ff0 ff1 ff2 cb_B3 cb_B4 cb_B5
           replace RH := RH.chg hcr (fun k hk e => RH.ne B4 (by decide) (by rw [hk]; exact congrArg some e))
           replace B3 := hcr.blkS B3 (by unfold at1; omega)
           replace B5 := hcr.blkS B5 (by unfold at1; omega)
           replace B4 := hbr
           clear hbr
           replace s := s.put hcr (fun i hi => by have h1 : i = (w.heap.size + 1) := hi; omega)
           clear hcr
           have cC := blk3 B4
           refine bodyPost_ret (v := .agg #[.int .i64 a.ts, .int .i64 a.beta, (.slice o' lo.length c')]) (by simp [results, Try.results46, go_sem, cC]) rfl ?_
           exact ⟨_, ⟨a.ts, a.beta, lo⟩, rfl, hll, RH, s.c, s.x⟩
          ·
           have hkne : ¬ ch = k + 1 := by omega
           have hkle : k + 1 ≤ ch := by omega
           have RS : RdS Hop.rep w3 (.slice (some ⟨gh, (k + 1) * 5, none⟩) (a.hops.length - (k + 1)) (ch - (k + 1))) (a.hops.drop (k + 1)) := by
            have h1 := (OwnF.rd (hf := Hop.flen) RH).sufO (k + 1) (by omega)
            simpa [Addr.add, Hop.rep, Rep.flat] using h1
           have cb_B3 := blk3 B3
           have cb_B4 := blk3 B4
           have cb_B5 := blk3 B5
           have cb_B7 := blk5 B7
           go_upto_region 22 with (fail)
           clear cb_B3 cb_B4 cb_B5 cb_B7
           replace RS := RS.ext ((Ext.refl w3).drew)
           replace B3 := Ext.block ((Ext.refl w3).drew) B3
           replace B4 := Ext.block ((Ext.refl w3).drew) B4
           replace B5 := Ext.block ((Ext.refl w3).drew) B5
           replace B7 := Ext.block ((Ext.refl w3).drew) B7
           replace RH := RH.ext ((Ext.refl w3).drew)
           replace s := s.ext ((Ext.refl w3).drew)
           refine planStep (.blk [0, 1, 2, 3, 4, 5, 6, 7, 8] (.one 9 (.blk [10] (.one 11 .done)))) [9, 11] (by kernel_rfl) (by kernel_rfl) ?_
           generalize w3.drew = wdd at B3 B4 B5 B7 RH s RS ⊢
           have cB := blk3 B5
           refine blkStep (fun K HK => ?_)
           simp only [PK]
           go_wp2_with fail
           refine HK.out _ _ ?_
           clear HK K
           clear cB
           refine badStep (by kernel_rfl) (fun K HK => ?_)
           simp only [PK]
           have hdl : (a.hops.drop (k + 1)).length = a.hops.length - (k + 1) := List.length_drop
           have htl : (a.hops.take k).length = k := by simp; omega
           have RT := OwnF.trim Hop.flen RH k (by omega)
           refine appS EH Hop.flen Hop.one rfl _ _ rfl (a.hops.drop (k + 1)) rfl RT rfl RS (by omega) (by unfold maxLen; omega) s.x.size ?_
           intro v' w' ho' hg'
           have hSn : Chg (fun b => b = gh) wdd w' := Chg.ofGrown hg' (fun b h => by cases h; rfl)
           have hng : ∀ b, b = gh → w.heap.size ≤ b := fun b h => by subst h; exact (RH.block b rfl).1
           go_wp2_with fail
           refine HK.out _ _ ?_
           clear HK K hg' RS RT
           replace B3 := hSn.blkS B3 (fun e => RH.ne B3 (by decide) (by rw [e]; rfl))
           replace B4 := hSn.blkS B4 (fun e => RH.ne B4 (by decide) (by rw [e]; rfl))
           replace B5 := hSn.blkS B5 (fun e => RH.ne B5 (by decide) (by rw [e]; rfl))
           replace s := s.put hSn hng
           clear RH hSn hng B7
           generalize hlo : a.hops.take k ++ a.hops.drop (k + 1) = lo at ho'
           have hll : lo.length ≤ a.hops.length := by rw [← hlo]; simp; omega
           clear hlo htl hdl
           have RH := ho'
           clear ho'
           obtain ⟨o', c', rfl, _⟩ := (OwnF.rd (hf := Hop.flen) RH).shape
           refine blkStep (fun K HK => ?_)
           simp only [PK]
           go_wp2_with fail
           refine HK.out _ _ ?_
           clear HK K
           obtain ⟨wh, hwh, hbh, hch⟩ := one_set B5 2 (.slice o' lo.length c')
           simp only [List.setIfInBounds_toArray, List.set_cons_succ, List.set_cons_zero] at hbh
           have HWH := Lib.hid hwh
           clear hwh
           have ff := fr_of B5 2
           have cB := blk3 B5
           refine badStep (by kernel_rfl) (fun K HK => ?_)
           simp only [PK]
           go_wp2_with fail
           refine HK.out _ _ ?_
           clear HK K
           clear cB ff
           rw [← HWH.out]
           clear HWH
           refine doneStep (by kernel_rfl) ?_
           replace B3 := hch.blkS B3 (by unfold at1; omega)
           replace B4 := hch.blkS B4 (by unfold at1; omega)
           replace RH := RH.chg hch (fun b hb e => RH.ne B5 (by decide) (by rw [hb]; exact congrArg some e))
           replace B5 := hbh
           replace s := s.put hch (fun i hi => by have h1 : i = b5 := hi; omega)
           clear hbh hch
           obtain ⟨wpr, hwr, hbr, hcr⟩ := three_set B4 (.int .i64 a.ts) (.int .i64 a.beta) ((.slice o' lo.length c'))
           have HWr := Lib.hid hwr
           clear hwr
           have ff0 := fr_of B4 0
           have ff1 := fr_of B4 1
           have ff2 := fr_of B4 2
           have cb_B3 := blk3 B3
           have cb_B4 := blk3 B4
           have cb_B5 := blk3 B5
           go_wp2_with fail
           rw [← HWr.out]
           clear HWr ff0 ff1 ff2 cb_B3 cb_B4 cb_B5
           replace RH := RH.chg hcr (fun k hk e => RH.ne B4 (by decide) (by rw [hk]; exact congrArg some e))
           replace B3 := hcr.blkS B3 (by unfold at1; omega)
           replace B5 := hcr.blkS B5 (by unfold at1; omega)
           replace B4 := hbr
           clear hbr
           replace s := s.put hcr (fun i hi => by have h1 : i = (w.heap.size + 1) := hi; omega)
           clear hcr
           have cC := blk3 B4
           refine bodyPost_ret (v := .agg #[.int .i64 a.ts, .int .i64 a.beta, (.slice o' lo.length c')]) (by simp [results, Try.results46, go_sem, cC]) rfl ?_
           exact ⟨_, ⟨a.ts, a.beta, lo⟩, rfl, hll, RH, s.c, s.x⟩
         ·
          have q7f : (q == 7) = false := by rw [beq_eq_false_iff_ne]; exact q7
          obtain ⟨hn, hgn⟩ := Hop.own_set RH k hk2 ⟨x.asn, x.ing, x.eg, x.exp, x.mac⟩
          have hSn : Chg (fun b => b = gh) w3 _ := Chg.ofGrown hgn (fun b h => by cases h; rfl)
          obtain ⟨wn, hwn⟩ : ∃ wn : World, wn = (((((w3.setCell ⟨gh, k * 5, none⟩ (.int .i64 x.asn)).setCell ⟨gh, k * 5 + 1, none⟩ (.int .i64 x.ing)).setCell ⟨gh, k * 5 + 2, none⟩ (.int .i64 x.eg)).setCell ⟨gh, k * 5 + 3, none⟩ (.int .i64 x.exp)).setCell ⟨gh, k * 5 + 4, none⟩ (.int .i64 x.mac)) := ⟨_, rfl⟩
          have HWN := Lib.hid hwn
          have hng : ∀ b, b = gh → w.heap.size ≤ b := fun b h => by subst h; exact (RH.block b rfl).1
          rw [← hwn] at hn hSn
          clear hwn hgn
          have ck := Hop.own_at RH k hk2
          have fk0 := RH.free (k * 5)
          have fk1 := RH.free (k * 5 + 1)
          have fk2 := RH.free (k * 5 + 2)
          have fk3 := RH.free (k * 5 + 3)
          have fk4 := RH.free (k * 5 + 4)
          have cb_B3 := blk3 B3
          have cb_B4 := blk3 B4
          have cb_B5 := blk3 B5
          have cb_B7 := blk5 B7
          go_upto_region 25 with (fail)
          clear cb_B3 cb_B4 cb_B5 cb_B7
          rw [← HWN.out]
          clear ck fk0 fk1 fk2 fk3 fk4 HWN
          have nx : w.heap.size ≤ w.heap.size := Nat.le_refl _
          replace B3 := hSn.blkS B3 (fun e => RH.ne B3 (by decide) (by rw [e]; rfl))
          clear nx
          have nx : w.heap.size ≤ w.heap.size := Nat.le_refl _
          replace B4 := hSn.blkS B4 (fun e => RH.ne B4 (by decide) (by rw [e]; rfl))
          clear nx
          have nx : w.heap.size ≤ w.heap.size := Nat.le_refl _
          replace B5 := hSn.blkS B5 (fun e => RH.ne B5 (by decide) (by rw [e]; rfl))
          clear nx
          clear B7
          replace s := s.put hSn hng
          replace RH := hn
          clear hn hSn hng
          obtain ⟨wpr, hwr, hbr, hcr⟩ := three_set B4 (.int .i64 a.ts) (.int .i64 a.beta) ((.slice (some ⟨gh, 0, none⟩) a.hops.length ch))
          have HWr := Lib.hid hwr
          clear hwr
          have ff0 := fr_of B4 0
          have ff1 := fr_of B4 1
          have ff2 := fr_of B4 2
          have cb_B3 := blk3 B3
          have cb_B4 := blk3 B4
          have cb_B5 := blk3 B5
          go_wp2_with fail
          rw [← HWr.out]
          clear HWr ff0 ff1 ff2 cb_B3 cb_B4 cb_B5
          replace RH := RH.chg hcr (fun k hk e => RH.ne B4 (by decide) (by rw [hk]; exact congrArg some e))
          replace B3 := hcr.blkS B3 (by unfold at1; omega)
          replace B5 := hcr.blkS B5 (by unfold at1; omega)
          replace B4 := hbr
          clear hbr
          replace s := s.put hcr (fun i hi => by have h1 : i = (w.heap.size + 1) := hi; omega)
          clear hcr
          have cC := blk3 B4
          refine bodyPost_ret (v := .agg #[.int .i64 a.ts, .int .i64 a.beta, (.slice (some ⟨gh, 0, none⟩) a.hops.length ch)]) (by simp [results, Try.results46, go_sem, cC]) rfl ?_
          exact ⟨_, ⟨a.ts, a.beta, a.hops.set k ⟨x.asn, x.ing, x.eg, x.exp, x.mac⟩⟩, rfl, by simp, RH, s.c, s.x⟩
end
end Go.Proofs.Ytcpfmhgfaliemaa
