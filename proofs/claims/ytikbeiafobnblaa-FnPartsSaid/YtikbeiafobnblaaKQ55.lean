/- What these laws need: FnParts: The draws of the code: a part of a segment, spoiled or not. -/
import Derived.Deep.CutBlock
import Derived.Test.YtikbeiafobnblaaKQ20
import Derived.Test.YtikbeiafobnblaaKQ28
import Derived.Test.YtikbeiafobnblaaKQ51
namespace Go.Proofs.Ytikbeiafobnblaa
section
open Go.ChangeShapes Go.WideShapes Go.ChangeAt Go.RowKit Go.Deep
theorem four_setP {w : World} {b : Nat} {x0 x1 x2 x3 : Value} {t : TypeId} (h : w.heap[b]? = some (.cells #[x0, x1, x2, x3] t (0, 0))) (y0 y1 y2 y3 : Value) :
  ∃ w5, w5 = (((w.setCell ⟨b, 0, none⟩ y0).setCell ⟨b, 1, none⟩ y1).setCell ⟨b, 2, none⟩ y2).setCell ⟨b, 3, none⟩ y3 ∧ w5.heap[b]? = some (.cells #[y0, y1, y2, y3] t (0, 0)) ∧ Chg (at1 b) w w5 := by
 have q (o : Nat) (u : Value) {wq : World} (h : Chg (at1 b) w wq) := Chg.setC (S := at1 b) (p := ⟨b, o, none⟩) h rfl u
 exact ⟨_, rfl, by simpa using blk_set (blk_set (blk_set (blk_set h 0 y0) 1 y1) 2 y2) 3 y3, q _ _ (q _ _ (q _ _ (q _ _ (Chg.refl _ _))))⟩
set_option maxRecDepth 100000 in
set_option maxHeartbeats 20000000 in
theorem s_l21Draw (g : Nat)  (cv : Value) (cd : List Int) (w : World) (hc : Cur g cv cd w) :
  Calls Try.prog 186 #[.pointer (some ⟨g, 0, none⟩)] w fun e w' => ∃ (v1 v2 v : Value) (t : Topo) (x : Part) (m : Nat), e = .returned (.tuple #[.agg #[v1, v2], .agg #[.int .i64 x.kind, .int .i64 x.ts, .int .i64 x.beta, v]]) ∧ TopoOk t ∧ x.hops.length ≤ 5 ∧ w.heap.size ≤ m ∧ m ≤ w'.heap.size ∧ (Own.keep ASd.rep).own (rng w.heap.size m) w' v1 t.ases ∧ (Own.keep Lnk.rep).own (rng w.heap.size m) w' v2 t.links ∧ (Own.flat Hop.f 5 Hop.flen 146).own (rng m w'.heap.size) w' v x.hops ∧ Cur g cv cd w' ∧ Chg (at1 g) w w' := by
 have hx0 := ext2 w (.cells #[.slice none 0 0, .slice none 0 0] 41) (.cells #[.int .i64 0, .int .i64 0, .int .i64 0, .slice none 0 0] 78)
 have HB := al2 w (.cells #[.slice none 0 0, .slice none 0 0] 41) (.cells #[.int .i64 0, .int .i64 0, .int .i64 0, .slice none 0 0] 78)
 have hgw := hc.lt
 have s : DSt g cv cd w ((w.alloc (.cells #[.slice none 0 0, .slice none 0 0] 41)).alloc (.cells #[.int .i64 0, .int .i64 0, .int .i64 0, .slice none 0 0] 78)) := ⟨hc.ext hx0, Chg.ofExt hx0, hc⟩
 have B2 := HB.1
 have B3 := HB.2
 clear HB hx0
 go_enter Try.func186, Try.ntmps186
 go_wp2_with fail
 have hbs : w.heap.size ≤ ((w.alloc (.cells #[.slice none 0 0, .slice none 0 0] 41)).alloc (.cells #[.int .i64 0, .int .i64 0, .int .i64 0, .slice none 0 0] 78)).heap.size := s.x.size
 have ltq_B2 : w.heap.size < ((w.alloc (.cells #[.slice none 0 0, .slice none 0 0] 41)).alloc (.cells #[.int .i64 0, .int .i64 0, .int .i64 0, .slice none 0 0] 78)).heap.size := blk_lt B2
 have ltq_B3 : (w.heap.size + 1) < ((w.alloc (.cells #[.slice none 0 0, .slice none 0 0] 41)).alloc (.cells #[.int .i64 0, .int .i64 0, .int .i64 0, .slice none 0 0] 78)).heap.size := blk_lt B3
 refine (s_l9Draw g _ _ _ s.c).mono ?_
 rintro e w1 ⟨v1, v2, va, t, kd, a, rfl, TK, SD, OA, OL, OH, hcq, hzq⟩
 replace B2 := hzq.blkS B2 (by unfold at1; omega)
 replace B3 := hzq.blkS B3 (by unfold at1; omega)
 replace s := s.draw hcq hzq
 have RA : (Own.keep ASd.rep).own (rng ((w.alloc (.cells #[.slice none 0 0, .slice none 0 0] 41)).alloc (.cells #[.int .i64 0, .int .i64 0, .int .i64 0, .slice none 0 0] 78)).heap.size w1.heap.size) w1 v1 t.ases := Own.toKeep (Own.ofFr (hf := ASd.flen) OA (Nat.le_refl _))
 clear OA
 have RL : (Own.keep Lnk.rep).own (rng ((w.alloc (.cells #[.slice none 0 0, .slice none 0 0] 41)).alloc (.cells #[.int .i64 0, .int .i64 0, .int .i64 0, .slice none 0 0] 78)).heap.size w1.heap.size) w1 v2 t.links := Own.toKeep (Own.ofFr (hf := Lnk.flen) OL (Nat.le_refl _))
 clear OL
 have RH : (Own.keep Hop.rep).own (rng ((w.alloc (.cells #[.slice none 0 0, .slice none 0 0] 41)).alloc (.cells #[.int .i64 0, .int .i64 0, .int .i64 0, .slice none 0 0] 78)).heap.size w1.heap.size) w1 va a.hops := Own.toKeep (Own.ofFr (hf := Hop.flen) OH (Nat.le_refl _))
 clear OH
 obtain ⟨o1, c1, rfl, _⟩ := RdS.shape (Own.rd _ RA)
 obtain ⟨o2, c2, rfl, _⟩ := RdS.shape (Own.rd _ RL)
 obtain ⟨o_a, c_a, rfl, _⟩ := RdS.shape (Own.rd _ RH)
 have hl5 := SD.len
 have g_RA : g < ((w.alloc (.cells #[.slice none 0 0, .slice none 0 0] 41)).alloc (.cells #[.int .i64 0, .int .i64 0, .int .i64 0, .slice none 0 0] 78)).heap.size := by omega
 have u_RA : w1.heap.size ≤ w1.heap.size := by omega
 have lt_B2_RA : w.heap.size < ((w.alloc (.cells #[.slice none 0 0, .slice none 0 0] 41)).alloc (.cells #[.int .i64 0, .int .i64 0, .int .i64 0, .slice none 0 0] 78)).heap.size := by omega
 have lt_B3_RA : (w.heap.size + 1) < ((w.alloc (.cells #[.slice none 0 0, .slice none 0 0] 41)).alloc (.cells #[.int .i64 0, .int .i64 0, .int .i64 0, .slice none 0 0] 78)).heap.size := by omega
 have g_RL : g < ((w.alloc (.cells #[.slice none 0 0, .slice none 0 0] 41)).alloc (.cells #[.int .i64 0, .int .i64 0, .int .i64 0, .slice none 0 0] 78)).heap.size := by omega
 have u_RL : w1.heap.size ≤ w1.heap.size := by omega
 have lt_B2_RL : w.heap.size < ((w.alloc (.cells #[.slice none 0 0, .slice none 0 0] 41)).alloc (.cells #[.int .i64 0, .int .i64 0, .int .i64 0, .slice none 0 0] 78)).heap.size := by omega
 have lt_B3_RL : (w.heap.size + 1) < ((w.alloc (.cells #[.slice none 0 0, .slice none 0 0] 41)).alloc (.cells #[.int .i64 0, .int .i64 0, .int .i64 0, .slice none 0 0] 78)).heap.size := by omega
 have g_RH : g < ((w.alloc (.cells #[.slice none 0 0, .slice none 0 0] 41)).alloc (.cells #[.int .i64 0, .int .i64 0, .int .i64 0, .slice none 0 0] 78)).heap.size := by omega
 have u_RH : w1.heap.size ≤ w1.heap.size := by omega
 have lt_B2_RH : w.heap.size < ((w.alloc (.cells #[.slice none 0 0, .slice none 0 0] 41)).alloc (.cells #[.int .i64 0, .int .i64 0, .int .i64 0, .slice none 0 0] 78)).heap.size := by omega
 have lt_B3_RH : (w.heap.size + 1) < ((w.alloc (.cells #[.slice none 0 0, .slice none 0 0] 41)).alloc (.cells #[.int .i64 0, .int .i64 0, .int .i64 0, .slice none 0 0] 78)).heap.size := by omega
 clear hzq hcq hbs ltq_B2 ltq_B3
 have cb_B2 := blk2 B2
 have cb_B3 := blk4 B3
 go_upto_region 2 with (fail)
 clear cb_B2 cb_B3
 have hxa := ext2 w1 (.cells #[.slice o1 t.ases.length c1, .slice o2 t.links.length c2] 41) (.cells #[.int .i64 a.ts, .int .i64 a.beta, .slice o_a a.hops.length c_a] 60)
 have BB := al2 w1 (.cells #[.slice o1 t.ases.length c1, .slice o2 t.links.length c2] 41) (.cells #[.int .i64 a.ts, .int .i64 a.beta, .slice o_a a.hops.length c_a] 60)
 obtain ⟨b4, eb4⟩ : ∃ b, b = w1.heap.size := ⟨_, rfl⟩
 have ltw_b4 : w.heap.size ≤ b4 := by rw [eb4]; exact s.x.size
 have lt_B2_b4 : w.heap.size < b4 := by rw [eb4]; exact blk_lt B2
 have lt_B3_b4 : (w.heap.size + 1) < b4 := by rw [eb4]; exact blk_lt B3
 have hb_RA_b4 : w1.heap.size ≤ b4 := by rw [eb4]; exact u_RA
 have hb_RL_b4 : w1.heap.size ≤ b4 := by rw [eb4]; exact u_RL
 have hb_RH_b4 : w1.heap.size ≤ b4 := by rw [eb4]; exact u_RH
 replace B2 := Ext.block hxa B2
 replace B3 := Ext.block hxa B3
 replace RA := Own.ext RA hxa
 replace u_RA := Nat.le_trans u_RA hxa.size
 replace RL := Own.ext RL hxa
 replace u_RL := Nat.le_trans u_RL hxa.size
 replace RH := Own.ext RH hxa
 replace u_RH := Nat.le_trans u_RH hxa.size
 replace s := s.ext hxa
 have B4 := BB.1
 have B5 := BB.2
 rw [← eb4] at B4 B5
 rw [← eb4]
 clear hxa BB
 generalize ((w1.alloc (.cells #[.slice o1 t.ases.length c1, .slice o2 t.links.length c2] 41)).alloc (.cells #[.int .i64 a.ts, .int .i64 a.beta, .slice o_a a.hops.length c_a] 60)) = wa at B2 B3 B4 B5 RA RL RH u_RA u_RL u_RH s ⊢
 clear eb4
 have cb_B2 := blk2 B2
 have cb_B3 := blk4 B3
 have cb_B4 := blk2 B4
 have cb_B5 := blk3 B5
 go_wp2_with fail
 clear cb_B2 cb_B3 cb_B4 cb_B5
 refine (s_l1Int g [1, 4] _ _ wa s.c (by decide) (by decide)).mono ?_
 rintro e w2 ⟨k1, rfl, hk1, hcq, hzq⟩
 replace B2 := hzq.blkS B2 (by unfold at1; omega)
 replace B3 := hzq.blkS B3 (by unfold at1; omega)
 replace B4 := hzq.blkS B4 (by unfold at1; omega)
 replace B5 := hzq.blkS B5 (by unfold at1; omega)
 replace RA := Own.at1g RA hzq (.inl g_RA)
 replace u_RA := Nat.le_trans u_RA hzq.size
 replace RL := Own.at1g RL hzq (.inl g_RL)
 replace u_RL := Nat.le_trans u_RL hzq.size
 replace RH := Own.at1g RH hzq (.inl g_RH)
 replace u_RH := Nat.le_trans u_RH hzq.size
 replace s := s.draw hcq hzq
 clear hk1
 clear hzq hcq
 have cb_B2 := blk2 B2
 have cb_B3 := blk4 B3
 have cb_B4 := blk2 B4
 have cb_B5 := blk3 B5
 go_wp2_with fail
 clear cb_B2 cb_B3 cb_B4 cb_B5
 refine (s_SegmentKind t _ _ a _ _ (Own.rd _ RA) (Own.rd _ RL) (Own.rd _ RH) (by omega)).mono ?_
 rintro e w3 ⟨rfl, hzq⟩
 replace B2 := Ext.block hzq B2
 replace B3 := Ext.block hzq B3
 replace B4 := Ext.block hzq B4
 replace B5 := Ext.block hzq B5
 replace RA := Own.ext RA hzq
 replace u_RA := Nat.le_trans u_RA hzq.size
 replace RL := Own.ext RL hzq
 replace u_RL := Nat.le_trans u_RL hzq.size
 replace RH := Own.ext RH hzq
 replace u_RH := Nat.le_trans u_RH hzq.size
 replace s := s.ext hzq
 obtain ⟨sk, hsk⟩ : ∃ q, q = segKind t a := ⟨_, rfl⟩
 rw [← hsk]
 clear hsk
 clear hzq
 cases hs : (sk == 1)
 ·
  have cb_B2 := blk2 B2
  have cb_B3 := blk4 B3
  have cb_B4 := blk2 B4
  have cb_B5 := blk3 B5
  go_wp2_with fail
  clear cb_B2 cb_B3 cb_B4 cb_B5
  refine (s_l1Once g (3) _ _ _ s.c).mono ?_
  rintro e w4 ⟨b1, rfl, hcq, hzq⟩
  replace B2 := hzq.blkS B2 (by unfold at1; omega)
  replace B3 := hzq.blkS B3 (by unfold at1; omega)
  replace B4 := hzq.blkS B4 (by unfold at1; omega)
  replace B5 := hzq.blkS B5 (by unfold at1; omega)
  replace RA := Own.at1g RA hzq (.inl g_RA)
  replace u_RA := Nat.le_trans u_RA hzq.size
  replace RL := Own.at1g RL hzq (.inl g_RL)
  replace u_RL := Nat.le_trans u_RL hzq.size
  replace RH := Own.at1g RH hzq (.inl g_RH)
  replace u_RH := Nat.le_trans u_RH hzq.size
  replace s := s.draw hcq hzq
  clear hzq hcq
  cases b1
  case false =>
   have cb_B2 := blk2 B2
   have cb_B3 := blk4 B3
   have cb_B4 := blk2 B4
   have cb_B5 := blk3 B5
   go_upto_region 8 with (fail)
   clear cb_B2 cb_B3 cb_B4 cb_B5
   refine wp_region_fin (at1 w.heap.size) [([0, 1, 2, 3], 4)] [] [5, 6] (by kernel_rfl) (by kernel_rfl) (by kernel_rfl) ?_
   have ch_B4 := blk2 B4
   have q0 := ChgSW.cell (S := at1 w.heap.size) (ch_B4.1) (by first | (unfold at1; simp only; omega) | (simp only; omega))
   have q1 := ChgSW.cell (S := at1 w.heap.size) (ch_B4.2) (by first | (unfold at1; simp only; omega) | (simp only; omega))
   clear ch_B4
   have ch_B5 := blk3 B5
   have q2 := ChgSW.cell (S := at1 w.heap.size) (ch_B5.1) (by first | (unfold at1; simp only; omega) | (simp only; omega))
   have q3 := ChgSW.cell (S := at1 w.heap.size) (ch_B5.2.1) (by first | (unfold at1; simp only; omega) | (simp only; omega))
   have q4 := ChgSW.cell (S := at1 w.heap.size) (ch_B5.2.2) (by first | (unfold at1; simp only; omega) | (simp only; omega))
   clear ch_B5
   simp only [wpBlocksX, pickOps, PK]
   have hch : Chg (at1 w.heap.size) w4 w4.drew := Chg.ofExt (Ext.refl w4).drew
   replace B2 := Ext.block ((Ext.refl w4).drew) B2
   replace B3 := Ext.block ((Ext.refl w4).drew) B3
   replace B4 := Ext.block ((Ext.refl w4).drew) B4
   replace B5 := Ext.block ((Ext.refl w4).drew) B5
   replace RA := Own.ext RA ((Ext.refl w4).drew)
   replace u_RA := Nat.le_trans u_RA ((Ext.refl w4).drew).size
   replace RL := Own.ext RL ((Ext.refl w4).drew)
   replace u_RL := Nat.le_trans u_RL ((Ext.refl w4).drew).size
   replace RH := Own.ext RH ((Ext.refl w4).drew)
   replace u_RH := Nat.le_trans u_RH ((Ext.refl w4).drew).size
   replace s := s.ext ((Ext.refl w4).drew)
   obtain ⟨wt, hnw⟩ : ∃ wn, wn = w4.drew := ⟨_, rfl⟩
   rw [← hnw] at B2 B3 B4 B5 RA RL RH u_RA u_RL u_RH s hch ⊢
   clear hnw
   repeat (first | go_big_quiet_step (fail) | quiet_step (fail))
   refine wpQuiet_nil ?_
   have HMR : w1.heap.size ≤ wt.heap.size := u_RA
   have HML := lt_B3_RA
   go_wp2_with fail
   have hbs : w.heap.size ≤ wt.heap.size := s.x.size
   have ltq_B2 : w.heap.size < wt.heap.size := blk_lt B2
   have ltq_B3 : (w.heap.size + 1) < wt.heap.size := blk_lt B3
   have ltq_B4 : b4 < wt.heap.size := blk_lt B4
   have ltq_B5 : (b4 + 1) < wt.heap.size := blk_lt B5
   refine (s_MakePart a _ k1 0 _ (Own.rd _ RH) (by omega)).mono ?_
   rintro e w5 ⟨u, rfl, OP, hzq⟩
   replace B2 := Ext.block hzq B2
   replace B3 := Ext.block hzq B3
   replace B4 := Ext.block hzq B4
   replace B5 := Ext.block hzq B5
   replace RA := Own.ext RA hzq
   replace u_RA := Nat.le_trans u_RA hzq.size
   replace RL := Own.ext RL hzq
   replace u_RL := Nat.le_trans u_RL hzq.size
   replace RH := Own.ext RH hzq
   replace u_RH := Nat.le_trans u_RH hzq.size
   replace s := s.ext hzq
   replace hch := hch.trans ((Chg.ofExt hzq))
   have HMS := hzq.size
   obtain ⟨x, hx⟩ : ∃ x, x = makePart a k1 0 := ⟨_, rfl⟩
   rw [← hx] at OP ⊢
   have hxl : x.hops.length ≤ 5 := by rw [hx]; exact Nat.le_trans (makePart_len a _ _) hl5
   clear hx
   have RP := Own.ofF (hf := Hop.flen) OP
   clear OP
   obtain ⟨o_x, c_x, rfl, _⟩ := (OwnF.rd (hf := Hop.flen) RP.1).shape
   have g_RP : g < wt.heap.size := by omega
   have u_RP : w5.heap.size ≤ w5.heap.size := by omega
   have lt_B2_RP : w.heap.size < wt.heap.size := by omega
   have lt_B3_RP : (w.heap.size + 1) < wt.heap.size := by omega
   have lt_B4_RP : b4 < wt.heap.size := by omega
   have lt_B5_RP : (b4 + 1) < wt.heap.size := by omega
   clear hzq hbs ltq_B2 ltq_B3 ltq_B4 ltq_B5
   go_wp2_with fail
   refine ⟨⟨⟨_, hch⟩, rfl⟩, ?_⟩
   repeat (first | go_big_quiet_step (fail) | quiet_step (fail))
   refine wpQuiet_nil ?_
   obtain ⟨wpc, hwc, hbc, hcc⟩ := two_set B2 (.slice o1 t.ases.length c1) (.slice o2 t.links.length c2)
   have HWc := Lib.hid hwc
   clear hwc
   have fc0 := fr_of B2 0
   have fc1 := fr_of B2 1
   have fk0 := fr_of B3 0
   have fk1 := fr_of B3 1
   have fk2 := fr_of B3 2
   have fk3 := fr_of B3 3
   have cb_B2 := blk2 B2
   have cb_B3 := blk4 B3
   have cb_B4 := blk2 B4
   have cb_B5 := blk3 B5
   go_wp2_with fail
   rw [← HWc.out]
   clear HWc fc0 fc1 fk0 fk1 fk2 fk3 cb_B2 cb_B3 cb_B4 cb_B5
   replace RA := Own.at1g RA hcc (by omega)
   replace u_RA := Nat.le_trans u_RA hcc.size
   replace RL := Own.at1g RL hcc (by omega)
   replace u_RL := Nat.le_trans u_RL hcc.size
   replace RH := Own.at1g RH hcc (by omega)
   replace u_RH := Nat.le_trans u_RH hcc.size
   replace RP := Own.at1g RP hcc (by omega)
   replace u_RP := Nat.le_trans u_RP hcc.size
   replace B3 := hcc.blkS B3 (by unfold at1; omega)
   replace B4 := hcc.blkS B4 (by unfold at1; omega)
   replace B5 := hcc.blkS B5 (by unfold at1; omega)
   replace B2 := hbc
   clear hbc
   replace s := s.put hcc (fun i hi => by have h1 : i = w.heap.size := hi; omega)
   try clear hcc
   obtain ⟨wpd, hwd, hbd, hcd⟩ := four_setP B3 (.int .i64 x.kind) (.int .i64 x.ts) (.int .i64 x.beta) (.slice o_x x.hops.length c_x)
   rw [← hwd]
   clear hwd
   replace RA := Own.at1g RA hcd (by omega)
   replace u_RA := Nat.le_trans u_RA hcd.size
   replace RL := Own.at1g RL hcd (by omega)
   replace u_RL := Nat.le_trans u_RL hcd.size
   replace RH := Own.at1g RH hcd (by omega)
   replace u_RH := Nat.le_trans u_RH hcd.size
   replace RP := Own.at1g RP hcd (by omega)
   replace u_RP := Nat.le_trans u_RP hcd.size
   replace B2 := hcd.blkS B2 (by unfold at1; omega)
   replace B4 := hcd.blkS B4 (by unfold at1; omega)
   replace B5 := hcd.blkS B5 (by unfold at1; omega)
   replace B3 := hbd
   clear hbd
   replace s := s.put hcd (fun i hi => by have h1 : i = (w.heap.size + 1) := hi; omega)
   try clear hcd
   refine NoPanic.normal ?_
   clear hch q0 q1 q2 q3 q4
   have cr_B2 := blk2 B2
   have cr_B3 := blk4 B3
   have cr_B4 := blk2 B4
   have cr_B5 := blk3 B5
   have hszE := s.x.size
   go_wp2_with fail
   refine bodyPost_ret (v := .tuple #[.agg #[.slice o1 t.ases.length c1, .slice o2 t.links.length c2], .agg #[.int .i64 x.kind, .int .i64 x.ts, .int .i64 x.beta, .slice o_x x.hops.length c_x]]) (by simp [results, Try.results186, go_sem, cr_B2, cr_B3]) rfl ?_
   exact ⟨_, _, _, t, x, wt.heap.size, rfl, TK, hxl, by omega, by omega, (Own.keep ASd.rep).mono RA (fun k hk => ⟨by have h1 := hk.1; omega, by have h1 := hk.2; omega⟩), (Own.keep Lnk.rep).mono RL (fun k hk => ⟨by have h1 := hk.1; omega, by have h1 := hk.2; omega⟩), (Own.upTo (Own.lo RP (by omega)) (Nat.le_refl _)), s.c, s.x⟩
  case true =>
   have cb_B2 := blk2 B2
   have cb_B3 := blk4 B3
   have cb_B4 := blk2 B4
   have cb_B5 := blk3 B5
   go_wp2_with fail
   clear cb_B2 cb_B3 cb_B4 cb_B5
   refine (s_l1Below g ((a.hops.length : Int) + 1) _ _ _ s.c).mono ?_
   rintro e w5 ⟨fr, rfl, hf0, hf1, hcq, hzq⟩
   replace B2 := hzq.blkS B2 (by unfold at1; omega)
   replace B3 := hzq.blkS B3 (by unfold at1; omega)
   replace B4 := hzq.blkS B4 (by unfold at1; omega)
   replace B5 := hzq.blkS B5 (by unfold at1; omega)
   replace RA := Own.at1g RA hzq (.inl g_RA)
   replace u_RA := Nat.le_trans u_RA hzq.size
   replace RL := Own.at1g RL hzq (.inl g_RL)
   replace u_RL := Nat.le_trans u_RL hzq.size
   replace RH := Own.at1g RH hzq (.inl g_RH)
   replace u_RH := Nat.le_trans u_RH hzq.size
   replace s := s.draw hcq hzq
   clear hf0 hf1
   clear hzq hcq
   have cb_B2 := blk2 B2
   have cb_B3 := blk4 B3
   have cb_B4 := blk2 B4
   have cb_B5 := blk3 B5
   go_upto_region 8 with (fail)
   clear cb_B2 cb_B3 cb_B4 cb_B5
   refine wp_region_fin (at1 w.heap.size) [([0, 1, 2, 3], 4)] [] [5, 6] (by kernel_rfl) (by kernel_rfl) (by kernel_rfl) ?_
   have ch_B4 := blk2 B4
   have q0 := ChgSW.cell (S := at1 w.heap.size) (ch_B4.1) (by first | (unfold at1; simp only; omega) | (simp only; omega))
   have q1 := ChgSW.cell (S := at1 w.heap.size) (ch_B4.2) (by first | (unfold at1; simp only; omega) | (simp only; omega))
   clear ch_B4
   have ch_B5 := blk3 B5
   have q2 := ChgSW.cell (S := at1 w.heap.size) (ch_B5.1) (by first | (unfold at1; simp only; omega) | (simp only; omega))
   have q3 := ChgSW.cell (S := at1 w.heap.size) (ch_B5.2.1) (by first | (unfold at1; simp only; omega) | (simp only; omega))
   have q4 := ChgSW.cell (S := at1 w.heap.size) (ch_B5.2.2) (by first | (unfold at1; simp only; omega) | (simp only; omega))
   clear ch_B5
   simp only [wpBlocksX, pickOps, PK]
   have hch : Chg (at1 w.heap.size) w5 w5.drew := Chg.ofExt (Ext.refl w5).drew
   replace B2 := Ext.block ((Ext.refl w5).drew) B2
   replace B3 := Ext.block ((Ext.refl w5).drew) B3
   replace B4 := Ext.block ((Ext.refl w5).drew) B4
   replace B5 := Ext.block ((Ext.refl w5).drew) B5
   replace RA := Own.ext RA ((Ext.refl w5).drew)
   replace u_RA := Nat.le_trans u_RA ((Ext.refl w5).drew).size
   replace RL := Own.ext RL ((Ext.refl w5).drew)
   replace u_RL := Nat.le_trans u_RL ((Ext.refl w5).drew).size
   replace RH := Own.ext RH ((Ext.refl w5).drew)
   replace u_RH := Nat.le_trans u_RH ((Ext.refl w5).drew).size
   replace s := s.ext ((Ext.refl w5).drew)
   obtain ⟨wt, hnw⟩ : ∃ wn, wn = w5.drew := ⟨_, rfl⟩
   rw [← hnw] at B2 B3 B4 B5 RA RL RH u_RA u_RL u_RH s hch ⊢
   clear hnw
   repeat (first | go_big_quiet_step (fail) | quiet_step (fail))
   refine wpQuiet_nil ?_
   have HMR : w1.heap.size ≤ wt.heap.size := u_RA
   have HML := lt_B3_RA
   go_wp2_with fail
   have hbs : w.heap.size ≤ wt.heap.size := s.x.size
   have ltq_B2 : w.heap.size < wt.heap.size := blk_lt B2
   have ltq_B3 : (w.heap.size + 1) < wt.heap.size := blk_lt B3
   have ltq_B4 : b4 < wt.heap.size := blk_lt B4
   have ltq_B5 : (b4 + 1) < wt.heap.size := blk_lt B5
   refine (s_MakePart a _ k1 fr _ (Own.rd _ RH) (by omega)).mono ?_
   rintro e w6 ⟨u, rfl, OP, hzq⟩
   replace B2 := Ext.block hzq B2
   replace B3 := Ext.block hzq B3
   replace B4 := Ext.block hzq B4
   replace B5 := Ext.block hzq B5
   replace RA := Own.ext RA hzq
   replace u_RA := Nat.le_trans u_RA hzq.size
   replace RL := Own.ext RL hzq
   replace u_RL := Nat.le_trans u_RL hzq.size
   replace RH := Own.ext RH hzq
   replace u_RH := Nat.le_trans u_RH hzq.size
   replace s := s.ext hzq
   replace hch := hch.trans ((Chg.ofExt hzq))
   have HMS := hzq.size
   obtain ⟨x, hx⟩ : ∃ x, x = makePart a k1 fr := ⟨_, rfl⟩
   rw [← hx] at OP ⊢
   have hxl : x.hops.length ≤ 5 := by rw [hx]; exact Nat.le_trans (makePart_len a _ _) hl5
   clear hx
   have RP := Own.ofF (hf := Hop.flen) OP
   clear OP
   obtain ⟨o_x, c_x, rfl, _⟩ := (OwnF.rd (hf := Hop.flen) RP.1).shape
   have g_RP : g < wt.heap.size := by omega
   have u_RP : w6.heap.size ≤ w6.heap.size := by omega
   have lt_B2_RP : w.heap.size < wt.heap.size := by omega
   have lt_B3_RP : (w.heap.size + 1) < wt.heap.size := by omega
   have lt_B4_RP : b4 < wt.heap.size := by omega
   have lt_B5_RP : (b4 + 1) < wt.heap.size := by omega
   clear hzq hbs ltq_B2 ltq_B3 ltq_B4 ltq_B5
   go_wp2_with fail
   refine ⟨⟨⟨_, hch⟩, rfl⟩, ?_⟩
   repeat (first | go_big_quiet_step (fail) | quiet_step (fail))
   refine wpQuiet_nil ?_
   obtain ⟨wpc, hwc, hbc, hcc⟩ := two_set B2 (.slice o1 t.ases.length c1) (.slice o2 t.links.length c2)
   have HWc := Lib.hid hwc
   clear hwc
   have fc0 := fr_of B2 0
   have fc1 := fr_of B2 1
   have fk0 := fr_of B3 0
   have fk1 := fr_of B3 1
   have fk2 := fr_of B3 2
   have fk3 := fr_of B3 3
   have cb_B2 := blk2 B2
   have cb_B3 := blk4 B3
   have cb_B4 := blk2 B4
   have cb_B5 := blk3 B5
   go_wp2_with fail
   rw [← HWc.out]
   clear HWc fc0 fc1 fk0 fk1 fk2 fk3 cb_B2 cb_B3 cb_B4 cb_B5
   replace RA := Own.at1g RA hcc (by omega)
   replace u_RA := Nat.le_trans u_RA hcc.size
   replace RL := Own.at1g RL hcc (by omega)
   replace u_RL := Nat.le_trans u_RL hcc.size
   replace RH := Own.at1g RH hcc (by omega)
   replace u_RH := Nat.le_trans u_RH hcc.size
   replace RP := Own.at1g RP hcc (by omega)
   replace u_RP := Nat.le_trans u_RP hcc.size
   replace B3 := hcc.blkS B3 (by unfold at1; omega)
   replace B4 := hcc.blkS B4 (by unfold at1; omega)
   replace B5 := hcc.blkS B5 (by unfold at1; omega)
   replace B2 := hbc
   clear hbc
   replace s := s.put hcc (fun i hi => by have h1 : i = w.heap.size := hi; omega)
   try clear hcc
   obtain ⟨wpd, hwd, hbd, hcd⟩ := four_setP B3 (.int .i64 x.kind) (.int .i64 x.ts) (.int .i64 x.beta) (.slice o_x x.hops.length c_x)
   rw [← hwd]
   clear hwd
   replace RA := Own.at1g RA hcd (by omega)
   replace u_RA := Nat.le_trans u_RA hcd.size
   replace RL := Own.at1g RL hcd (by omega)
   replace u_RL := Nat.le_trans u_RL hcd.size
   replace RH := Own.at1g RH hcd (by omega)
   replace u_RH := Nat.le_trans u_RH hcd.size
   replace RP := Own.at1g RP hcd (by omega)
   replace u_RP := Nat.le_trans u_RP hcd.size
   replace B2 := hcd.blkS B2 (by unfold at1; omega)
   replace B4 := hcd.blkS B4 (by unfold at1; omega)
   replace B5 := hcd.blkS B5 (by unfold at1; omega)
   replace B3 := hbd
   clear hbd
   replace s := s.put hcd (fun i hi => by have h1 : i = (w.heap.size + 1) := hi; omega)
   try clear hcd
   refine NoPanic.normal ?_
   clear hch q0 q1 q2 q3 q4
   have cr_B2 := blk2 B2
   have cr_B3 := blk4 B3
   have cr_B4 := blk2 B4
   have cr_B5 := blk3 B5
   have hszE := s.x.size
   go_wp2_with fail
   refine bodyPost_ret (v := .tuple #[.agg #[.slice o1 t.ases.length c1, .slice o2 t.links.length c2], .agg #[.int .i64 x.kind, .int .i64 x.ts, .int .i64 x.beta, .slice o_x x.hops.length c_x]]) (by simp [results, Try.results186, go_sem, cr_B2, cr_B3]) rfl ?_
   exact ⟨_, _, _, t, x, wt.heap.size, rfl, TK, hxl, by omega, by omega, (Own.keep ASd.rep).mono RA (fun k hk => ⟨by have h1 := hk.1; omega, by have h1 := hk.2; omega⟩), (Own.keep Lnk.rep).mono RL (fun k hk => ⟨by have h1 := hk.1; omega, by have h1 := hk.2; omega⟩), (Own.upTo (Own.lo RP (by omega)) (Nat.le_refl _)), s.c, s.x⟩
 ·
  have cb_B2 := blk2 B2
  have cb_B3 := blk4 B3
  have cb_B4 := blk2 B4
  have cb_B5 := blk3 B5
  go_wp2_with fail
  clear cb_B2 cb_B3 cb_B4 cb_B5
  refine (s_l1Int g [2, 3] _ _ w3 s.c (by decide) (by decide)).mono ?_
  rintro e w4 ⟨k2, rfl, hk2, hcq, hzq⟩
  replace B2 := hzq.blkS B2 (by unfold at1; omega)
  replace B3 := hzq.blkS B3 (by unfold at1; omega)
  replace B4 := hzq.blkS B4 (by unfold at1; omega)
  replace B5 := hzq.blkS B5 (by unfold at1; omega)
  replace RA := Own.at1g RA hzq (.inl g_RA)
  replace u_RA := Nat.le_trans u_RA hzq.size
  replace RL := Own.at1g RL hzq (.inl g_RL)
  replace u_RL := Nat.le_trans u_RL hzq.size
  replace RH := Own.at1g RH hzq (.inl g_RH)
  replace u_RH := Nat.le_trans u_RH hzq.size
  replace s := s.draw hcq hzq
  clear hk2
  clear hzq hcq
  have cb_B2 := blk2 B2
  have cb_B3 := blk4 B3
  have cb_B4 := blk2 B4
  have cb_B5 := blk3 B5
  go_wp2_with fail
  clear cb_B2 cb_B3 cb_B4 cb_B5
  refine (s_l1Once g (3) _ _ _ s.c).mono ?_
  rintro e w5 ⟨b1, rfl, hcq, hzq⟩
  replace B2 := hzq.blkS B2 (by unfold at1; omega)
  replace B3 := hzq.blkS B3 (by unfold at1; omega)
  replace B4 := hzq.blkS B4 (by unfold at1; omega)
  replace B5 := hzq.blkS B5 (by unfold at1; omega)
  replace RA := Own.at1g RA hzq (.inl g_RA)
  replace u_RA := Nat.le_trans u_RA hzq.size
  replace RL := Own.at1g RL hzq (.inl g_RL)
  replace u_RL := Nat.le_trans u_RL hzq.size
  replace RH := Own.at1g RH hzq (.inl g_RH)
  replace u_RH := Nat.le_trans u_RH hzq.size
  replace s := s.draw hcq hzq
  clear hzq hcq
  cases b1
  case false =>
   have cb_B2 := blk2 B2
   have cb_B3 := blk4 B3
   have cb_B4 := blk2 B4
   have cb_B5 := blk3 B5
   go_upto_region 8 with (fail)
   clear cb_B2 cb_B3 cb_B4 cb_B5
   refine wp_region_fin (at1 w.heap.size) [([0, 1, 2, 3], 4)] [] [5, 6] (by kernel_rfl) (by kernel_rfl) (by kernel_rfl) ?_
   have ch_B4 := blk2 B4
   have q0 := ChgSW.cell (S := at1 w.heap.size) (ch_B4.1) (by first | (unfold at1; simp only; omega) | (simp only; omega))
   have q1 := ChgSW.cell (S := at1 w.heap.size) (ch_B4.2) (by first | (unfold at1; simp only; omega) | (simp only; omega))
   clear ch_B4
   have ch_B5 := blk3 B5
   have q2 := ChgSW.cell (S := at1 w.heap.size) (ch_B5.1) (by first | (unfold at1; simp only; omega) | (simp only; omega))
   have q3 := ChgSW.cell (S := at1 w.heap.size) (ch_B5.2.1) (by first | (unfold at1; simp only; omega) | (simp only; omega))
   have q4 := ChgSW.cell (S := at1 w.heap.size) (ch_B5.2.2) (by first | (unfold at1; simp only; omega) | (simp only; omega))
   clear ch_B5
   simp only [wpBlocksX, pickOps, PK]
   have hch : Chg (at1 w.heap.size) w5 w5.drew := Chg.ofExt (Ext.refl w5).drew
   replace B2 := Ext.block ((Ext.refl w5).drew) B2
   replace B3 := Ext.block ((Ext.refl w5).drew) B3
   replace B4 := Ext.block ((Ext.refl w5).drew) B4
   replace B5 := Ext.block ((Ext.refl w5).drew) B5
   replace RA := Own.ext RA ((Ext.refl w5).drew)
   replace u_RA := Nat.le_trans u_RA ((Ext.refl w5).drew).size
   replace RL := Own.ext RL ((Ext.refl w5).drew)
   replace u_RL := Nat.le_trans u_RL ((Ext.refl w5).drew).size
   replace RH := Own.ext RH ((Ext.refl w5).drew)
   replace u_RH := Nat.le_trans u_RH ((Ext.refl w5).drew).size
   replace s := s.ext ((Ext.refl w5).drew)
   obtain ⟨wt, hnw⟩ : ∃ wn, wn = w5.drew := ⟨_, rfl⟩
   rw [← hnw] at B2 B3 B4 B5 RA RL RH u_RA u_RL u_RH s hch ⊢
   clear hnw
   repeat (first | go_big_quiet_step (fail) | quiet_step (fail))
   refine wpQuiet_nil ?_
   have HMR : w1.heap.size ≤ wt.heap.size := u_RA
   have HML := lt_B3_RA
   go_wp2_with fail
   have hbs : w.heap.size ≤ wt.heap.size := s.x.size
   have ltq_B2 : w.heap.size < wt.heap.size := blk_lt B2
   have ltq_B3 : (w.heap.size + 1) < wt.heap.size := blk_lt B3
   have ltq_B4 : b4 < wt.heap.size := blk_lt B4
   have ltq_B5 : (b4 + 1) < wt.heap.size := blk_lt B5
   refine (s_MakePart a _ k2 0 _ (Own.rd _ RH) (by omega)).mono ?_
   rintro e w6 ⟨u, rfl, OP, hzq⟩
   replace B2 := Ext.block hzq B2
   replace B3 := Ext.block hzq B3
   replace B4 := Ext.block hzq B4
   replace B5 := Ext.block hzq B5
   replace RA := Own.ext RA hzq
   replace u_RA := Nat.le_trans u_RA hzq.size
   replace RL := Own.ext RL hzq
   replace u_RL := Nat.le_trans u_RL hzq.size
   replace RH := Own.ext RH hzq
   replace u_RH := Nat.le_trans u_RH hzq.size
   replace s := s.ext hzq
   replace hch := hch.trans ((Chg.ofExt hzq))
   have HMS := hzq.size
   obtain ⟨x, hx⟩ : ∃ x, x = makePart a k2 0 := ⟨_, rfl⟩
   rw [← hx] at OP ⊢
   have hxl : x.hops.length ≤ 5 := by rw [hx]; exact Nat.le_trans (makePart_len a _ _) hl5
   clear hx
   have RP := Own.ofF (hf := Hop.flen) OP
   clear OP
   obtain ⟨o_x, c_x, rfl, _⟩ := (OwnF.rd (hf := Hop.flen) RP.1).shape
   have g_RP : g < wt.heap.size := by omega
   have u_RP : w6.heap.size ≤ w6.heap.size := by omega
   have lt_B2_RP : w.heap.size < wt.heap.size := by omega
   have lt_B3_RP : (w.heap.size + 1) < wt.heap.size := by omega
   have lt_B4_RP : b4 < wt.heap.size := by omega
   have lt_B5_RP : (b4 + 1) < wt.heap.size := by omega
   clear hzq hbs ltq_B2 ltq_B3 ltq_B4 ltq_B5
   go_wp2_with fail
   refine ⟨⟨⟨_, hch⟩, rfl⟩, ?_⟩
   repeat (first | go_big_quiet_step (fail) | quiet_step (fail))
   refine wpQuiet_nil ?_
   obtain ⟨wpc, hwc, hbc, hcc⟩ := two_set B2 (.slice o1 t.ases.length c1) (.slice o2 t.links.length c2)
   have HWc := Lib.hid hwc
   clear hwc
   have fc0 := fr_of B2 0
   have fc1 := fr_of B2 1
   have fk0 := fr_of B3 0
   have fk1 := fr_of B3 1
   have fk2 := fr_of B3 2
   have fk3 := fr_of B3 3
   have cb_B2 := blk2 B2
   have cb_B3 := blk4 B3
   have cb_B4 := blk2 B4
   have cb_B5 := blk3 B5
   go_wp2_with fail
   rw [← HWc.out]
   clear HWc fc0 fc1 fk0 fk1 fk2 fk3 cb_B2 cb_B3 cb_B4 cb_B5
   replace RA := Own.at1g RA hcc (by omega)
   replace u_RA := Nat.le_trans u_RA hcc.size
   replace RL := Own.at1g RL hcc (by omega)
   replace u_RL := Nat.le_trans u_RL hcc.size
   replace RH := Own.at1g RH hcc (by omega)
   replace u_RH := Nat.le_trans u_RH hcc.size
   replace RP := Own.at1g RP hcc (by omega)
   replace u_RP := Nat.le_trans u_RP hcc.size
   replace B3 := hcc.blkS B3 (by unfold at1; omega)
   replace B4 := hcc.blkS B4 (by unfold at1; omega)
   replace B5 := hcc.blkS B5 (by unfold at1; omega)
   replace B2 := hbc
   clear hbc
   replace s := s.put hcc (fun i hi => by have h1 : i = w.heap.size := hi; omega)
   try clear hcc
   obtain ⟨wpd, hwd, hbd, hcd⟩ := four_setP B3 (.int .i64 x.kind) (.int .i64 x.ts) (.int .i64 x.beta) (.slice o_x x.hops.length c_x)
   rw [← hwd]
   clear hwd
   replace RA := Own.at1g RA hcd (by omega)
   replace u_RA := Nat.le_trans u_RA hcd.size
   replace RL := Own.at1g RL hcd (by omega)
   replace u_RL := Nat.le_trans u_RL hcd.size
   replace RH := Own.at1g RH hcd (by omega)
   replace u_RH := Nat.le_trans u_RH hcd.size
   replace RP := Own.at1g RP hcd (by omega)
   replace u_RP := Nat.le_trans u_RP hcd.size
   replace B2 := hcd.blkS B2 (by unfold at1; omega)
   replace B4 := hcd.blkS B4 (by unfold at1; omega)
   replace B5 := hcd.blkS B5 (by unfold at1; omega)
   replace B3 := hbd
   clear hbd
   replace s := s.put hcd (fun i hi => by have h1 : i = (w.heap.size + 1) := hi; omega)
   try clear hcd
   refine NoPanic.normal ?_
   clear hch q0 q1 q2 q3 q4
   have cr_B2 := blk2 B2
   have cr_B3 := blk4 B3
   have cr_B4 := blk2 B4
   have cr_B5 := blk3 B5
   have hszE := s.x.size
   go_wp2_with fail
   refine bodyPost_ret (v := .tuple #[.agg #[.slice o1 t.ases.length c1, .slice o2 t.links.length c2], .agg #[.int .i64 x.kind, .int .i64 x.ts, .int .i64 x.beta, .slice o_x x.hops.length c_x]]) (by simp [results, Try.results186, go_sem, cr_B2, cr_B3]) rfl ?_
   exact ⟨_, _, _, t, x, wt.heap.size, rfl, TK, hxl, by omega, by omega, (Own.keep ASd.rep).mono RA (fun k hk => ⟨by have h1 := hk.1; omega, by have h1 := hk.2; omega⟩), (Own.keep Lnk.rep).mono RL (fun k hk => ⟨by have h1 := hk.1; omega, by have h1 := hk.2; omega⟩), (Own.upTo (Own.lo RP (by omega)) (Nat.le_refl _)), s.c, s.x⟩
  case true =>
   have cb_B2 := blk2 B2
   have cb_B3 := blk4 B3
   have cb_B4 := blk2 B4
   have cb_B5 := blk3 B5
   go_wp2_with fail
   clear cb_B2 cb_B3 cb_B4 cb_B5
   refine (s_l1Below g ((a.hops.length : Int) + 1) _ _ _ s.c).mono ?_
   rintro e w6 ⟨fr, rfl, hf0, hf1, hcq, hzq⟩
   replace B2 := hzq.blkS B2 (by unfold at1; omega)
   replace B3 := hzq.blkS B3 (by unfold at1; omega)
   replace B4 := hzq.blkS B4 (by unfold at1; omega)
   replace B5 := hzq.blkS B5 (by unfold at1; omega)
   replace RA := Own.at1g RA hzq (.inl g_RA)
   replace u_RA := Nat.le_trans u_RA hzq.size
   replace RL := Own.at1g RL hzq (.inl g_RL)
   replace u_RL := Nat.le_trans u_RL hzq.size
   replace RH := Own.at1g RH hzq (.inl g_RH)
   replace u_RH := Nat.le_trans u_RH hzq.size
   replace s := s.draw hcq hzq
   clear hf0 hf1
   clear hzq hcq
   have cb_B2 := blk2 B2
   have cb_B3 := blk4 B3
   have cb_B4 := blk2 B4
   have cb_B5 := blk3 B5
   go_upto_region 8 with (fail)
   clear cb_B2 cb_B3 cb_B4 cb_B5
   refine wp_region_fin (at1 w.heap.size) [([0, 1, 2, 3], 4)] [] [5, 6] (by kernel_rfl) (by kernel_rfl) (by kernel_rfl) ?_
   have ch_B4 := blk2 B4
   have q0 := ChgSW.cell (S := at1 w.heap.size) (ch_B4.1) (by first | (unfold at1; simp only; omega) | (simp only; omega))
   have q1 := ChgSW.cell (S := at1 w.heap.size) (ch_B4.2) (by first | (unfold at1; simp only; omega) | (simp only; omega))
   clear ch_B4
   have ch_B5 := blk3 B5
   have q2 := ChgSW.cell (S := at1 w.heap.size) (ch_B5.1) (by first | (unfold at1; simp only; omega) | (simp only; omega))
   have q3 := ChgSW.cell (S := at1 w.heap.size) (ch_B5.2.1) (by first | (unfold at1; simp only; omega) | (simp only; omega))
   have q4 := ChgSW.cell (S := at1 w.heap.size) (ch_B5.2.2) (by first | (unfold at1; simp only; omega) | (simp only; omega))
   clear ch_B5
   simp only [wpBlocksX, pickOps, PK]
   have hch : Chg (at1 w.heap.size) w6 w6.drew := Chg.ofExt (Ext.refl w6).drew
   replace B2 := Ext.block ((Ext.refl w6).drew) B2
   replace B3 := Ext.block ((Ext.refl w6).drew) B3
   replace B4 := Ext.block ((Ext.refl w6).drew) B4
   replace B5 := Ext.block ((Ext.refl w6).drew) B5
   replace RA := Own.ext RA ((Ext.refl w6).drew)
   replace u_RA := Nat.le_trans u_RA ((Ext.refl w6).drew).size
   replace RL := Own.ext RL ((Ext.refl w6).drew)
   replace u_RL := Nat.le_trans u_RL ((Ext.refl w6).drew).size
   replace RH := Own.ext RH ((Ext.refl w6).drew)
   replace u_RH := Nat.le_trans u_RH ((Ext.refl w6).drew).size
   replace s := s.ext ((Ext.refl w6).drew)
   obtain ⟨wt, hnw⟩ : ∃ wn, wn = w6.drew := ⟨_, rfl⟩
   rw [← hnw] at B2 B3 B4 B5 RA RL RH u_RA u_RL u_RH s hch ⊢
   clear hnw
   repeat (first | go_big_quiet_step (fail) | quiet_step (fail))
   refine wpQuiet_nil ?_
   have HMR : w1.heap.size ≤ wt.heap.size := u_RA
   have HML := lt_B3_RA
   go_wp2_with fail
   have hbs : w.heap.size ≤ wt.heap.size := s.x.size
   have ltq_B2 : w.heap.size < wt.heap.size := blk_lt B2
   have ltq_B3 : (w.heap.size + 1) < wt.heap.size := blk_lt B3
   have ltq_B4 : b4 < wt.heap.size := blk_lt B4
   have ltq_B5 : (b4 + 1) < wt.heap.size := blk_lt B5
   refine (s_MakePart a _ k2 fr _ (Own.rd _ RH) (by omega)).mono ?_
   rintro e w7 ⟨u, rfl, OP, hzq⟩
   replace B2 := Ext.block hzq B2
   replace B3 := Ext.block hzq B3
   replace B4 := Ext.block hzq B4
   replace B5 := Ext.block hzq B5
   replace RA := Own.ext RA hzq
   replace u_RA := Nat.le_trans u_RA hzq.size
   replace RL := Own.ext RL hzq
   replace u_RL := Nat.le_trans u_RL hzq.size
   replace RH := Own.ext RH hzq
   replace u_RH := Nat.le_trans u_RH hzq.size
   replace s := s.ext hzq
   replace hch := hch.trans ((Chg.ofExt hzq))
   have HMS := hzq.size
   obtain ⟨x, hx⟩ : ∃ x, x = makePart a k2 fr := ⟨_, rfl⟩
   rw [← hx] at OP ⊢
   have hxl : x.hops.length ≤ 5 := by rw [hx]; exact Nat.le_trans (makePart_len a _ _) hl5
   clear hx
   have RP := Own.ofF (hf := Hop.flen) OP
   clear OP
   obtain ⟨o_x, c_x, rfl, _⟩ := (OwnF.rd (hf := Hop.flen) RP.1).shape
   have g_RP : g < wt.heap.size := by omega
   have u_RP : w7.heap.size ≤ w7.heap.size := by omega
   have lt_B2_RP : w.heap.size < wt.heap.size := by omega
   have lt_B3_RP : (w.heap.size + 1) < wt.heap.size := by omega
   have lt_B4_RP : b4 < wt.heap.size := by omega
   have lt_B5_RP : (b4 + 1) < wt.heap.size := by omega
   clear hzq hbs ltq_B2 ltq_B3 ltq_B4 ltq_B5
   go_wp2_with fail
   refine ⟨⟨⟨_, hch⟩, rfl⟩, ?_⟩
   repeat (first | go_big_quiet_step (fail) | quiet_step (fail))
   refine wpQuiet_nil ?_
   obtain ⟨wpc, hwc, hbc, hcc⟩ := two_set B2 (.slice o1 t.ases.length c1) (.slice o2 t.links.length c2)
   have HWc := Lib.hid hwc
   clear hwc
   have fc0 := fr_of B2 0
   have fc1 := fr_of B2 1
   have fk0 := fr_of B3 0
   have fk1 := fr_of B3 1
   have fk2 := fr_of B3 2
   have fk3 := fr_of B3 3
   have cb_B2 := blk2 B2
   have cb_B3 := blk4 B3
   have cb_B4 := blk2 B4
   have cb_B5 := blk3 B5
   go_wp2_with fail
   rw [← HWc.out]
   clear HWc fc0 fc1 fk0 fk1 fk2 fk3 cb_B2 cb_B3 cb_B4 cb_B5
   replace RA := Own.at1g RA hcc (by omega)
   replace u_RA := Nat.le_trans u_RA hcc.size
   replace RL := Own.at1g RL hcc (by omega)
   replace u_RL := Nat.le_trans u_RL hcc.size
   replace RH := Own.at1g RH hcc (by omega)
   replace u_RH := Nat.le_trans u_RH hcc.size
   replace RP := Own.at1g RP hcc (by omega)
   replace u_RP := Nat.le_trans u_RP hcc.size
   replace B3 := hcc.blkS B3 (by unfold at1; omega)
   replace B4 := hcc.blkS B4 (by unfold at1; omega)
   replace B5 := hcc.blkS B5 (by unfold at1; omega)
   replace B2 := hbc
   clear hbc
   replace s := s.put hcc (fun i hi => by have h1 : i = w.heap.size := hi; omega)
   try clear hcc
   obtain ⟨wpd, hwd, hbd, hcd⟩ := four_setP B3 (.int .i64 x.kind) (.int .i64 x.ts) (.int .i64 x.beta) (.slice o_x x.hops.length c_x)
   rw [← hwd]
   clear hwd
   replace RA := Own.at1g RA hcd (by omega)
   replace u_RA := Nat.le_trans u_RA hcd.size
   replace RL := Own.at1g RL hcd (by omega)
   replace u_RL := Nat.le_trans u_RL hcd.size
   replace RH := Own.at1g RH hcd (by omega)
   replace u_RH := Nat.le_trans u_RH hcd.size
   replace RP := Own.at1g RP hcd (by omega)
   replace u_RP := Nat.le_trans u_RP hcd.size
   replace B2 := hcd.blkS B2 (by unfold at1; omega)
   replace B4 := hcd.blkS B4 (by unfold at1; omega)
   replace B5 := hcd.blkS B5 (by unfold at1; omega)
   replace B3 := hbd
   clear hbd
   replace s := s.put hcd (fun i hi => by have h1 : i = (w.heap.size + 1) := hi; omega)
   try clear hcd
   refine NoPanic.normal ?_
   clear hch q0 q1 q2 q3 q4
   have cr_B2 := blk2 B2
   have cr_B3 := blk4 B3
   have cr_B4 := blk2 B4
   have cr_B5 := blk3 B5
   have hszE := s.x.size
   go_wp2_with fail
   refine bodyPost_ret (v := .tuple #[.agg #[.slice o1 t.ases.length c1, .slice o2 t.links.length c2], .agg #[.int .i64 x.kind, .int .i64 x.ts, .int .i64 x.beta, .slice o_x x.hops.length c_x]]) (by simp [results, Try.results186, go_sem, cr_B2, cr_B3]) rfl ?_
   exact ⟨_, _, _, t, x, wt.heap.size, rfl, TK, hxl, by omega, by omega, (Own.keep ASd.rep).mono RA (fun k hk => ⟨by have h1 := hk.1; omega, by have h1 := hk.2; omega⟩), (Own.keep Lnk.rep).mono RL (fun k hk => ⟨by have h1 := hk.1; omega, by have h1 := hk.2; omega⟩), (Own.upTo (Own.lo RP (by omega)) (Nat.le_refl _)), s.c, s.x⟩
set_option maxRecDepth 100000 in
set_option maxHeartbeats 20000000 in
theorem s_l21Any (g : Nat)  (cv : Value) (cd : List Int) (w : World) (hc : Cur g cv cd w) :
  Calls Try.prog 119 #[.pointer (some ⟨g, 0, none⟩)] w fun e w' => ∃ (v1 v2 v : Value) (t : Topo) (x : Part), e = .returned (.tuple #[.agg #[v1, v2], .agg #[.int .i64 x.kind, .int .i64 x.ts, .int .i64 x.beta, v]]) ∧ TopoOk t ∧ x.hops.length ≤ 6 ∧ (Own.keep ASd.rep).own (rng w.heap.size w'.heap.size) w' v1 t.ases ∧ (Own.keep Lnk.rep).own (rng w.heap.size w'.heap.size) w' v2 t.links ∧ (Own.flat Hop.f 5 Hop.flen 146).own (rng w.heap.size w'.heap.size) w' v x.hops ∧ Cur g cv cd w' ∧ Chg (at1 g) w w' := by
 obtain ⟨E⟩ := elemHop
 have hx0 := ext2 w (.cells #[.slice none 0 0, .slice none 0 0] 41) (.cells #[.int .i64 0, .int .i64 0, .int .i64 0, .slice none 0 0] 78)
 have HB := al2 w (.cells #[.slice none 0 0, .slice none 0 0] 41) (.cells #[.int .i64 0, .int .i64 0, .int .i64 0, .slice none 0 0] 78)
 have hgw := hc.lt
 have s : DSt g cv cd w ((w.alloc (.cells #[.slice none 0 0, .slice none 0 0] 41)).alloc (.cells #[.int .i64 0, .int .i64 0, .int .i64 0, .slice none 0 0] 78)) := ⟨hc.ext hx0, Chg.ofExt hx0, hc⟩
 have B2 := HB.1
 have B3 := HB.2
 clear HB hx0
 go_enter Try.func119, Try.ntmps119
 go_wp2_with fail
 have hbs : w.heap.size ≤ ((w.alloc (.cells #[.slice none 0 0, .slice none 0 0] 41)).alloc (.cells #[.int .i64 0, .int .i64 0, .int .i64 0, .slice none 0 0] 78)).heap.size := s.x.size
 have ltq_B2 : w.heap.size < ((w.alloc (.cells #[.slice none 0 0, .slice none 0 0] 41)).alloc (.cells #[.int .i64 0, .int .i64 0, .int .i64 0, .slice none 0 0] 78)).heap.size := blk_lt B2
 have ltq_B3 : (w.heap.size + 1) < ((w.alloc (.cells #[.slice none 0 0, .slice none 0 0] 41)).alloc (.cells #[.int .i64 0, .int .i64 0, .int .i64 0, .slice none 0 0] 78)).heap.size := blk_lt B3
 refine (s_l21Draw g _ _ _ s.c).mono ?_
 rintro e w1 ⟨v1, v2, vp, t, x, m, rfl, TK, hx5, hm1, hm2, RA, RL, RP, hcq, hzq⟩
 replace B2 := hzq.blkS B2 (by unfold at1; omega)
 replace B3 := hzq.blkS B3 (by unfold at1; omega)
 replace s := s.draw hcq hzq
 obtain ⟨o1, c1, rfl, _⟩ := RdS.shape (Own.rd _ RA)
 obtain ⟨o2, c2, rfl, _⟩ := RdS.shape (Own.rd _ RL)
 obtain ⟨op_, cp_, rfl, _⟩ := (OwnF.rd (hf := Hop.flen) RP.1).shape
 have g_RA : g < ((w.alloc (.cells #[.slice none 0 0, .slice none 0 0] 41)).alloc (.cells #[.int .i64 0, .int .i64 0, .int .i64 0, .slice none 0 0] 78)).heap.size := by omega
 have u_RA : m ≤ w1.heap.size := by omega
 have lt_B2_RA : w.heap.size < ((w.alloc (.cells #[.slice none 0 0, .slice none 0 0] 41)).alloc (.cells #[.int .i64 0, .int .i64 0, .int .i64 0, .slice none 0 0] 78)).heap.size := by omega
 have lt_B3_RA : (w.heap.size + 1) < ((w.alloc (.cells #[.slice none 0 0, .slice none 0 0] 41)).alloc (.cells #[.int .i64 0, .int .i64 0, .int .i64 0, .slice none 0 0] 78)).heap.size := by omega
 have g_RL : g < ((w.alloc (.cells #[.slice none 0 0, .slice none 0 0] 41)).alloc (.cells #[.int .i64 0, .int .i64 0, .int .i64 0, .slice none 0 0] 78)).heap.size := by omega
 have u_RL : m ≤ w1.heap.size := by omega
 have lt_B2_RL : w.heap.size < ((w.alloc (.cells #[.slice none 0 0, .slice none 0 0] 41)).alloc (.cells #[.int .i64 0, .int .i64 0, .int .i64 0, .slice none 0 0] 78)).heap.size := by omega
 have lt_B3_RL : (w.heap.size + 1) < ((w.alloc (.cells #[.slice none 0 0, .slice none 0 0] 41)).alloc (.cells #[.int .i64 0, .int .i64 0, .int .i64 0, .slice none 0 0] 78)).heap.size := by omega
 have g_RP : g < m := by omega
 have u_RP : w1.heap.size ≤ w1.heap.size := by omega
 have lt_B2_RP : w.heap.size < m := by omega
 have lt_B3_RP : (w.heap.size + 1) < m := by omega
 clear hzq hcq hbs ltq_B2 ltq_B3
 have cb_B2 := blk2 B2
 have cb_B3 := blk4 B3
 go_upto_region 2 with (fail)
 clear cb_B2 cb_B3
 have hxa := ext2 w1 (.cells #[.slice o1 t.ases.length c1, .slice o2 t.links.length c2] 41) (.cells #[.int .i64 x.kind, .int .i64 x.ts, .int .i64 x.beta, .slice op_ x.hops.length cp_] 78)
 have BB := al2 w1 (.cells #[.slice o1 t.ases.length c1, .slice o2 t.links.length c2] 41) (.cells #[.int .i64 x.kind, .int .i64 x.ts, .int .i64 x.beta, .slice op_ x.hops.length cp_] 78)
 obtain ⟨b4, eb4⟩ : ∃ b, b = w1.heap.size := ⟨_, rfl⟩
 have ltw_b4 : w.heap.size ≤ b4 := by rw [eb4]; exact s.x.size
 have lt_B2_b4 : w.heap.size < b4 := by rw [eb4]; exact blk_lt B2
 have lt_B3_b4 : (w.heap.size + 1) < b4 := by rw [eb4]; exact blk_lt B3
 have hb_RA_b4 : m ≤ b4 := by rw [eb4]; exact u_RA
 have hb_RL_b4 : m ≤ b4 := by rw [eb4]; exact u_RL
 have hb_RP_b4 : w1.heap.size ≤ b4 := by rw [eb4]; exact u_RP
 replace B2 := Ext.block hxa B2
 replace B3 := Ext.block hxa B3
 replace RA := Own.ext RA hxa
 replace u_RA := Nat.le_trans u_RA hxa.size
 replace RL := Own.ext RL hxa
 replace u_RL := Nat.le_trans u_RL hxa.size
 replace RP := Own.ext RP hxa
 replace u_RP := Nat.le_trans u_RP hxa.size
 replace s := s.ext hxa
 have B4 := BB.1
 have B5 := BB.2
 rw [← eb4] at B4 B5
 rw [← eb4]
 clear hxa BB
 generalize ((w1.alloc (.cells #[.slice o1 t.ases.length c1, .slice o2 t.links.length c2] 41)).alloc (.cells #[.int .i64 x.kind, .int .i64 x.ts, .int .i64 x.beta, .slice op_ x.hops.length cp_] 78)) = wa at B2 B3 B4 B5 RA RL RP u_RA u_RL u_RP s ⊢
 clear eb4
 have hp0 : x.hops.length = 0 ∨ 0 < x.hops.length := by omega
 rcases hp0 with hp0 | hp0
 ·
  have hp1 : ((x.hops.length : Int) == 0) = true := by simp; exact List.eq_nil_of_length_eq_zero hp0
  have cb_B2 := blk2 B2
  have cb_B3 := blk4 B3
  have cb_B4 := blk2 B4
  have cb_B5 := blk4 B5
  go_upto_region 3 with (fail)
  clear cb_B2 cb_B3 cb_B4 cb_B5
  clear hp1 hp0
  refine wp_region_fin (at1 w.heap.size) [([0, 1], 2)] [] [3] (by kernel_rfl) (by kernel_rfl) (by kernel_rfl) ?_
  have ch_B4 := blk2 B4
  have q0 := ChgSW.cell (S := at1 w.heap.size) (ch_B4.1) (by first | (unfold at1; simp only; omega) | (simp only; omega))
  have q1 := ChgSW.cell (S := at1 w.heap.size) (ch_B4.2) (by first | (unfold at1; simp only; omega) | (simp only; omega))
  clear ch_B4
  have ch_B5 := blk4 B5
  have q2 := ChgSW.cell (S := at1 w.heap.size) (ch_B5.1) (by first | (unfold at1; simp only; omega) | (simp only; omega))
  have q3 := ChgSW.cell (S := at1 w.heap.size) (ch_B5.2.1) (by first | (unfold at1; simp only; omega) | (simp only; omega))
  have q4 := ChgSW.cell (S := at1 w.heap.size) (ch_B5.2.2.1) (by first | (unfold at1; simp only; omega) | (simp only; omega))
  have q5 := ChgSW.cell (S := at1 w.heap.size) (ch_B5.2.2.2) (by first | (unfold at1; simp only; omega) | (simp only; omega))
  clear ch_B5
  simp only [wpBlocksX, pickOps, PK]
  have hch : Chg (at1 w.heap.size) wa wa.drew := Chg.ofExt (Ext.refl wa).drew
  replace B2 := Ext.block ((Ext.refl wa).drew) B2
  replace B3 := Ext.block ((Ext.refl wa).drew) B3
  replace B4 := Ext.block ((Ext.refl wa).drew) B4
  replace B5 := Ext.block ((Ext.refl wa).drew) B5
  replace RA := Own.ext RA ((Ext.refl wa).drew)
  replace u_RA := Nat.le_trans u_RA ((Ext.refl wa).drew).size
  replace RL := Own.ext RL ((Ext.refl wa).drew)
  replace u_RL := Nat.le_trans u_RL ((Ext.refl wa).drew).size
  replace RP := Own.ext RP ((Ext.refl wa).drew)
  replace u_RP := Nat.le_trans u_RP ((Ext.refl wa).drew).size
  replace s := s.ext ((Ext.refl wa).drew)
  obtain ⟨wt, hnw⟩ : ∃ wn, wn = wa.drew := ⟨_, rfl⟩
  rw [← hnw] at B2 B3 B4 B5 RA RL RP u_RA u_RL u_RP s hch ⊢
  clear hnw
  repeat (first | go_big_quiet_step (fail) | quiet_step (fail))
  refine wpQuiet_nil ?_
  obtain ⟨wpa, hwa, hba, hca⟩ := two_set B2 (.slice o1 t.ases.length c1) (.slice o2 t.links.length c2)
  have HWa := Lib.hid hwa
  clear hwa
  have ff0 := fr_of B2 0
  have ff1 := fr_of B2 1
  have cb := blk2 B2
  go_wp2_with fail
  rw [← HWa.out]
  clear HWa cb ff0 ff1
  replace hch := hch.trans (hca.mono (fun b h => h))
  refine ⟨⟨⟨_, hch⟩, rfl⟩, ?_⟩
  replace RA := Own.at1g RA hca (by omega)
  replace u_RA := Nat.le_trans u_RA hca.size
  replace RL := Own.at1g RL hca (by omega)
  replace u_RL := Nat.le_trans u_RL hca.size
  replace RP := Own.at1g RP hca (by omega)
  replace u_RP := Nat.le_trans u_RP hca.size
  replace B3 := hca.blkS B3 (by unfold at1; omega)
  replace B4 := hca.blkS B4 (by unfold at1; omega)
  replace B5 := hca.blkS B5 (by unfold at1; omega)
  replace B2 := hba
  clear hba
  replace s := s.put hca (fun i hi => by have h1 : i = w.heap.size := hi; omega)
  try clear hca
  repeat (first | go_big_quiet_step (fail) | quiet_step (fail))
  refine wpQuiet_nil ?_
  obtain ⟨wpb, hwb, hbb, hcb⟩ := four_setP B3 (.int .i64 x.kind) (.int .i64 x.ts) (.int .i64 x.beta) (.slice op_ x.hops.length cp_)
  have HWb := Lib.hid hwb
  clear hwb
  have ff0 := fr_of B3 0
  have ff1 := fr_of B3 1
  have ff2 := fr_of B3 2
  have ff3 := fr_of B3 3
  have cb := blk4 B3
  go_wp2_with fail
  rw [← HWb.out]
  clear HWb cb ff0 ff1 ff2 ff3
  replace RA := Own.at1g RA hcb (by omega)
  replace u_RA := Nat.le_trans u_RA hcb.size
  replace RL := Own.at1g RL hcb (by omega)
  replace u_RL := Nat.le_trans u_RL hcb.size
  replace RP := Own.at1g RP hcb (by omega)
  replace u_RP := Nat.le_trans u_RP hcb.size
  replace B2 := hcb.blkS B2 (by unfold at1; omega)
  replace B4 := hcb.blkS B4 (by unfold at1; omega)
  replace B5 := hcb.blkS B5 (by unfold at1; omega)
  replace B3 := hbb
  clear hbb
  replace s := s.put hcb (fun i hi => by have h1 : i = (w.heap.size + 1) := hi; omega)
  try clear hcb
  refine NoPanic.normal ?_
  clear hch q0 q1 q2 q3 q4 q5
  have cr_B2 := blk2 B2
  have cr_B3 := blk4 B3
  have cr_B4 := blk2 B4
  have cr_B5 := blk4 B5
  have hszE := s.x.size
  go_wp2_with fail
  refine bodyPost_ret (v := .tuple #[.agg #[.slice o1 t.ases.length c1, .slice o2 t.links.length c2], .agg #[.int .i64 x.kind, .int .i64 x.ts, .int .i64 x.beta, .slice op_ x.hops.length cp_]]) (by simp [results, Try.results119, go_sem, cr_B2, cr_B3]) rfl ?_
  exact ⟨_, _, _, t, x, rfl, TK, by omega, (Own.upTo (Own.lo RA (by omega)) (Nat.le_refl _)), (Own.upTo (Own.lo RL (by omega)) (Nat.le_refl _)), (Own.upTo (Own.lo RP (by omega)) (Nat.le_refl _)), s.c, s.x⟩
 ·
  have hp1 : ((x.hops.length : Int) == 0) = false := by simp; exact List.ne_nil_of_length_pos hp0
  have cb_B2 := blk2 B2
  have cb_B3 := blk4 B3
  have cb_B4 := blk2 B4
  have cb_B5 := blk4 B5
  go_wp2_with fail
  clear cb_B2 cb_B3 cb_B4 cb_B5
  refine (s_l1Below g (x.hops.length : Int) _ _ _ s.c).mono ?_
  rintro e w2 ⟨k, rfl, hk0, hk1, hcq, hzq⟩
  replace B2 := hzq.blkS B2 (by unfold at1; omega)
  replace B3 := hzq.blkS B3 (by unfold at1; omega)
  replace B4 := hzq.blkS B4 (by unfold at1; omega)
  replace B5 := hzq.blkS B5 (by unfold at1; omega)
  replace RA := Own.at1g RA hzq (.inl g_RA)
  replace u_RA := Nat.le_trans u_RA hzq.size
  replace RL := Own.at1g RL hzq (.inl g_RL)
  replace u_RL := Nat.le_trans u_RL hzq.size
  replace RP := Own.at1g RP hzq (.inl g_RP)
  replace u_RP := Nat.le_trans u_RP hzq.size
  replace s := s.draw hcq hzq
  clear hzq hcq
  have hk2 : k < x.hops.length := by omega
  obtain ⟨kk, rfl⟩ := Int.eq_ofNat_of_zero_le hk0
  have hkk : kk < x.hops.length := by omega
  clear hk1 hp1
  have cb_B2 := blk2 B2
  have cb_B3 := blk4 B3
  have cb_B4 := blk2 B4
  have cb_B5 := blk4 B5
  go_wp2_with fail
  clear cb_B2 cb_B3 cb_B4 cb_B5
  refine (s_l1Below g (12) _ _ _ s.c).mono ?_
  rintro e w3 ⟨q, rfl, hq0, hq1, hcq, hzq⟩
  replace B2 := hzq.blkS B2 (by unfold at1; omega)
  replace B3 := hzq.blkS B3 (by unfold at1; omega)
  replace B4 := hzq.blkS B4 (by unfold at1; omega)
  replace B5 := hzq.blkS B5 (by unfold at1; omega)
  replace RA := Own.at1g RA hzq (.inl g_RA)
  replace u_RA := Nat.le_trans u_RA hzq.size
  replace RL := Own.at1g RL hzq (.inl g_RL)
  replace u_RL := Nat.le_trans u_RL hzq.size
  replace RP := Own.at1g RP hzq (.inl g_RP)
  replace u_RP := Nat.le_trans u_RP hzq.size
  replace s := s.draw hcq hzq
  clear hzq hcq
  obtain ⟨gh, c_q, hve, hgh0, hgh1⟩ := OwnF.some_shape (Own.toF RP) hp0
  cases hve
  have hgr := RP.2 gh rfl
  obtain ⟨hgr1, hgr2⟩ := hgr
  clear hgh0 hgh1
  have cb_B2 := blk2 B2
  have cb_B3 := blk4 B3
  have cb_B4 := blk2 B4
  have cb_B5 := blk4 B5
  go_upto_block 0 with fail
  clear cb_B2 cb_B3 cb_B4 cb_B5
  go_cut [] (fun  wx => ∃ (y : Part) (u : Value) (hi : Nat), (y.hops.length ≤ 6) ∧ wx.heap[w.heap.size]? = some (.cells #[.slice none 0 0, .slice none 0 0] 41 (0, 0)) ∧ wx.heap[(w.heap.size + 1)]? = some (.cells #[.int .i64 0, .int .i64 0, .int .i64 0, .slice none 0 0] 78 (0, 0)) ∧ wx.heap[b4]? = some (.cells #[.slice o1 t.ases.length c1, .slice o2 t.links.length c2] 41 (0, 0)) ∧ wx.heap[(b4 + 1)]? = some (.cells #[.int .i64 y.kind, .int .i64 y.ts, .int .i64 y.beta, u] 78 (0, 0)) ∧ ((Own.keep ASd.rep).own (rng ((w.alloc (.cells #[.slice none 0 0, .slice none 0 0] 41)).alloc (.cells #[.int .i64 0, .int .i64 0, .int .i64 0, .slice none 0 0] 78)).heap.size m) wx (.slice o1 t.ases.length c1) t.ases ∧ m ≤ wx.heap.size) ∧ ((Own.keep Lnk.rep).own (rng ((w.alloc (.cells #[.slice none 0 0, .slice none 0 0] 41)).alloc (.cells #[.int .i64 0, .int .i64 0, .int .i64 0, .slice none 0 0] 78)).heap.size m) wx (.slice o2 t.links.length c2) t.links ∧ m ≤ wx.heap.size) ∧ ((Own.flat Hop.f 5 Hop.flen 146).own (rng m hi) wx u y.hops ∧ hi ≤ wx.heap.size) ∧ Cur g cv cd wx ∧ Chg (at1 g) w wx)
  case first =>
   by_cases q0 : q = 0
   ·
    subst q0
    have cb_B2 := blk2 B2
    have cb_B3 := blk4 B3
    have cb_B4 := blk2 B4
    have cb_B5 := blk4 B5
    go_wp2_with fail
    clear cb_B2 cb_B3 cb_B4 cb_B5
    refine (s_l1Below g (6) _ _ _ s.c).mono ?_
    rintro e w4 ⟨kd, rfl, hkd0, hkd1, hcq, hzq⟩
    replace B2 := hzq.blkS B2 (by unfold at1; omega)
    replace B3 := hzq.blkS B3 (by unfold at1; omega)
    replace B4 := hzq.blkS B4 (by unfold at1; omega)
    replace B5 := hzq.blkS B5 (by unfold at1; omega)
    replace RA := Own.at1g RA hzq (.inl g_RA)
    replace u_RA := Nat.le_trans u_RA hzq.size
    replace RL := Own.at1g RL hzq (.inl g_RL)
    replace u_RL := Nat.le_trans u_RL hzq.size
    replace RP := Own.at1g RP hzq (.inl g_RP)
    replace u_RP := Nat.le_trans u_RP hzq.size
    replace s := s.draw hcq hzq
    clear hzq hcq
    obtain ⟨wpn, hwn, hbn, hcn⟩ := one_set B5 0 (.int .i64 kd)
    simp only [List.setIfInBounds_toArray, List.set_cons_zero] at hbn
    have HWn := Lib.hid hwn
    clear hwn
    have ff0 := fr_of B5 0
    have ff1 := fr_of B5 1
    have ff2 := fr_of B5 2
    have ff3 := fr_of B5 3
    have cb_B2 := blk2 B2
    have cb_B3 := blk4 B3
    have cb_B4 := blk2 B4
    have cb_B5 := blk4 B5
    go_wp2_with fail
    clear cb_B2 cb_B3 cb_B4 cb_B5
    rw [← HWn.out]
    clear HWn ff0 ff1 ff2 ff3
    replace RA := Own.at1g RA hcn (by omega)
    replace u_RA := Nat.le_trans u_RA hcn.size
    replace RL := Own.at1g RL hcn (by omega)
    replace u_RL := Nat.le_trans u_RL hcn.size
    replace RP := Own.at1g RP hcn (by omega)
    replace u_RP := Nat.le_trans u_RP hcn.size
    replace B2 := hcn.blkS B2 (by unfold at1; omega)
    replace B3 := hcn.blkS B3 (by unfold at1; omega)
    replace B4 := hcn.blkS B4 (by unfold at1; omega)
    replace B5 := hbn
    clear hbn
    replace s := s.put hcn (fun i hi => by have h1 : i = (b4 + 1) := hi; omega)
    try clear hcn
    go_wp2_with fail
    go_meet
    exact ⟨{ x with kind := kd }, _, _, by simp only; omega, B2, B3, B4, B5, ⟨RA, u_RA⟩, ⟨RL, u_RL⟩, ⟨RP, u_RP⟩, s.c, s.x⟩
   ·
    have q0f : (q == 0) = false := by rw [beq_eq_false_iff_ne]; exact q0
    by_cases q1 : q = 1
    ·
     subst q1
     have cb_B2 := blk2 B2
     have cb_B3 := blk4 B3
     have cb_B4 := blk2 B4
     have cb_B5 := blk4 B5
     go_wp2_with fail
     clear cb_B2 cb_B3 cb_B4 cb_B5
     refine (s_l3Word g _ _ _ s.c).mono ?_
     rintro e w4 ⟨be, rfl, hbe0, hbe1, hcq, hzq⟩
     replace B2 := hzq.blkS B2 (by unfold at1; omega)
     replace B3 := hzq.blkS B3 (by unfold at1; omega)
     replace B4 := hzq.blkS B4 (by unfold at1; omega)
     replace B5 := hzq.blkS B5 (by unfold at1; omega)
     replace RA := Own.at1g RA hzq (.inl g_RA)
     replace u_RA := Nat.le_trans u_RA hzq.size
     replace RL := Own.at1g RL hzq (.inl g_RL)
     replace u_RL := Nat.le_trans u_RL hzq.size
     replace RP := Own.at1g RP hzq (.inl g_RP)
     replace u_RP := Nat.le_trans u_RP hzq.size
     replace s := s.draw hcq hzq
     clear hzq hcq
     obtain ⟨wpn, hwn, hbn, hcn⟩ := one_set B5 2 (.int .i64 be)
     simp only [List.setIfInBounds_toArray, List.set_cons_succ, List.set_cons_zero] at hbn
     have HWn := Lib.hid hwn
     clear hwn
     have ff0 := fr_of B5 0
     have ff1 := fr_of B5 1
     have ff2 := fr_of B5 2
     have ff3 := fr_of B5 3
     have cb_B2 := blk2 B2
     have cb_B3 := blk4 B3
     have cb_B4 := blk2 B4
     have cb_B5 := blk4 B5
     go_wp2_with fail
     clear cb_B2 cb_B3 cb_B4 cb_B5
     rw [← HWn.out]
     clear HWn ff0 ff1 ff2 ff3
     replace RA := Own.at1g RA hcn (by omega)
     replace u_RA := Nat.le_trans u_RA hcn.size
     replace RL := Own.at1g RL hcn (by omega)
     replace u_RL := Nat.le_trans u_RL hcn.size
     replace RP := Own.at1g RP hcn (by omega)
     replace u_RP := Nat.le_trans u_RP hcn.size
     replace B2 := hcn.blkS B2 (by unfold at1; omega)
     replace B3 := hcn.blkS B3 (by unfold at1; omega)
     replace B4 := hcn.blkS B4 (by unfold at1; omega)
     replace B5 := hbn
     clear hbn
     replace s := s.put hcn (fun i hi => by have h1 : i = (b4 + 1) := hi; omega)
     try clear hcn
     go_wp2_with fail
     go_meet
     exact ⟨{ x with beta := be }, _, _, by simp only; omega, B2, B3, B4, B5, ⟨RA, u_RA⟩, ⟨RL, u_RL⟩, ⟨RP, u_RP⟩, s.c, s.x⟩
    ·
     have q1f : (q == 1) = false := by rw [beq_eq_false_iff_ne]; exact q1
     by_cases q2 : q = 2
     ·
      subst q2
      have cb_B2 := blk2 B2
      have cb_B3 := blk4 B3
      have cb_B4 := blk2 B4
      have cb_B5 := blk4 B5
      go_upto_region 11 with (fail)
      clear cb_B2 cb_B3 cb_B4 cb_B5
      obtain ⟨bq, offq, hbo, hcH⟩ := Hop.at (OwnF.rd (hf := Hop.flen) RP.1) kk hkk
      cases hbo
      simp only [Nat.zero_add] at hcH
      refine wp_region_fin (at1 g) [] [0, 1, 2, 3, 4, 5, 6, 7, 8, 9, 10, 11] [12] (by kernel_rfl) (by kernel_rfl) (by kernel_rfl) ?_
      have ch_B5 := blk4 B5
      have q0 := ChgSW.cell (S := at1 g) (ch_B5.1) (by unfold at1; simp only; omega)
      have q1 := ChgSW.cell (S := at1 g) (ch_B5.2.1) (by unfold at1; simp only; omega)
      have q2 := ChgSW.cell (S := at1 g) (ch_B5.2.2.1) (by unfold at1; simp only; omega)
      have q3 := ChgSW.cell (S := at1 g) (ch_B5.2.2.2) (by unfold at1; simp only; omega)
      have q4 := ChgSW.cell (S := at1 g) (hcH.1) (by unfold at1; simp only; omega)
      have q5 := ChgSW.cell (S := at1 g) (hcH.2.1) (by unfold at1; simp only; omega)
      have q6 := ChgSW.cell (S := at1 g) (hcH.2.2.1) (by unfold at1; simp only; omega)
      have q7 := ChgSW.cell (S := at1 g) (hcH.2.2.2.1) (by unfold at1; simp only; omega)
      have q8 := ChgSW.cell (S := at1 g) (hcH.2.2.2.2) (by unfold at1; simp only; omega)
      clear ch_B5
      simp only [wpBlocksX, pickOps, PK]
      have hch : Chg (at1 g) w3 w3.drew := Chg.ofExt (Ext.refl w3).drew
      clear hcH
      replace B2 := Ext.block ((Ext.refl w3).drew) B2
      replace B3 := Ext.block ((Ext.refl w3).drew) B3
      replace B4 := Ext.block ((Ext.refl w3).drew) B4
      replace B5 := Ext.block ((Ext.refl w3).drew) B5
      replace RA := Own.ext RA ((Ext.refl w3).drew)
      replace u_RA := Nat.le_trans u_RA ((Ext.refl w3).drew).size
      replace RL := Own.ext RL ((Ext.refl w3).drew)
      replace u_RL := Nat.le_trans u_RL ((Ext.refl w3).drew).size
      replace RP := Own.ext RP ((Ext.refl w3).drew)
      replace u_RP := Nat.le_trans u_RP ((Ext.refl w3).drew).size
      replace s := s.ext ((Ext.refl w3).drew)
      obtain ⟨wd, hnw⟩ : ∃ wn, wn = w3.drew := ⟨_, rfl⟩
      rw [← hnw] at B2 B3 B4 B5 RA RL RP u_RA u_RL u_RP s hch ⊢
      clear hnw
      repeat (first | go_big_quiet_step (fail) | quiet_step (fail))
      refine wpQuiet_nil ?_
      obtain ⟨bq, offq, hbo, hcH⟩ := Hop.at (OwnF.rd (hf := Hop.flen) RP.1) kk hkk
      cases hbo
      simp only [Nat.zero_add] at hcH
      obtain ⟨hS, hgS⟩ := OwnF.put1 Hop.flen (Own.toF RP) kk hkk 3 (by decide) (.int .i64 (wrap64 (x.hops[kk].exp + 1))) { x.hops[kk] with exp := wrap64 (x.hops[kk].exp + 1) } rfl
      have hcS : Chg (at1 gh) wd (wd.setCell ⟨gh, kk * 5 + 3, none⟩ (.int .i64 (wrap64 (x.hops[kk].exp + 1)))) := Chg.setC (S := at1 gh) (p := ⟨gh, kk * 5 + 3, none⟩) (Chg.refl _ _) rfl _
      obtain ⟨wS, hwS⟩ : ∃ wS, wS = wd.setCell ⟨gh, kk * 5 + 3, none⟩ (.int .i64 (wrap64 (x.hops[kk].exp + 1))) := ⟨_, rfl⟩
      rw [← hwS] at hS hgS hcS
      obtain ⟨ln, hln⟩ : ∃ ln, ln = x.hops.set kk { x.hops[kk] with exp := wrap64 (x.hops[kk].exp + 1) } := ⟨_, rfl⟩
      rw [← hln] at hS
      have hnl : ln.length ≤ 6 := by rw [hln]; simp; omega
      clear hln
      try simp only [Nat.add_zero] at hwS
      have HWS := Lib.hid hwS
      clear hwS hgS
      have fS := OwnF.free RP.1 (kk * 5 + 3)
      try simp only [Nat.add_zero] at fS
      go_wp2_with fail
      rw [← HWS.out]
      clear HWS fS hcH RP
      have RP : (Own.flat Hop.f 5 Hop.flen 146).own (rng m wS.heap.size) wS _ _ := Own.ofF hS
      clear hS
      replace RA := Own.at1g RA hcS (by omega)
      replace u_RA := Nat.le_trans u_RA hcS.size
      replace RL := Own.at1g RL hcS (by omega)
      replace u_RL := Nat.le_trans u_RL hcS.size
      replace B2 := hcS.blkS B2 (by unfold at1; omega)
      replace B3 := hcS.blkS B3 (by unfold at1; omega)
      replace B4 := hcS.blkS B4 (by unfold at1; omega)
      replace B5 := hcS.blkS B5 (by unfold at1; omega)
      have u_RP := Nat.le_refl wS.heap.size
      replace s := s.put hcS (fun i hi => by have h1 : i = gh := hi; omega)
      clear hcS
      refine NoPanic.normal ?_
      clear hch q0 q1 q2 q3 q4 q5 q6 q7 q8
      go_wp2_with fail
      go_meet
      exact ⟨{ x with hops := ln }, _, _, hnl, B2, B3, B4, B5, ⟨RA, u_RA⟩, ⟨RL, u_RL⟩, ⟨RP, u_RP⟩, s.c, s.x⟩
     ·
      have q2f : (q == 2) = false := by rw [beq_eq_false_iff_ne]; exact q2
      by_cases q3 : q = 3
      ·
       subst q3
       have cb_B2 := blk2 B2
       have cb_B3 := blk4 B3
       have cb_B4 := blk2 B4
       have cb_B5 := blk4 B5
       go_upto_region 13 with (fail)
       clear cb_B2 cb_B3 cb_B4 cb_B5
       obtain ⟨bq, offq, hbo, hcH⟩ := Hop.at (OwnF.rd (hf := Hop.flen) RP.1) kk hkk
       cases hbo
       simp only [Nat.zero_add] at hcH
       refine wp_region_fin (at1 g) [([0, 1, 2, 3], 4)] [5, 6] [7] (by kernel_rfl) (by kernel_rfl) (by kernel_rfl) ?_
       have ch_B5 := blk4 B5
       have q0 := ChgSW.cell (S := at1 g) (ch_B5.1) (by unfold at1; simp only; omega)
       have q1 := ChgSW.cell (S := at1 g) (ch_B5.2.1) (by unfold at1; simp only; omega)
       have q2 := ChgSW.cell (S := at1 g) (ch_B5.2.2.1) (by unfold at1; simp only; omega)
       have q3 := ChgSW.cell (S := at1 g) (ch_B5.2.2.2) (by unfold at1; simp only; omega)
       have q4 := ChgSW.cell (S := at1 g) (hcH.1) (by unfold at1; simp only; omega)
       have q5 := ChgSW.cell (S := at1 g) (hcH.2.1) (by unfold at1; simp only; omega)
       have q6 := ChgSW.cell (S := at1 g) (hcH.2.2.1) (by unfold at1; simp only; omega)
       have q7 := ChgSW.cell (S := at1 g) (hcH.2.2.2.1) (by unfold at1; simp only; omega)
       have q8 := ChgSW.cell (S := at1 g) (hcH.2.2.2.2) (by unfold at1; simp only; omega)
       clear ch_B5
       simp only [wpBlocksX, pickOps, PK]
       have hch : Chg (at1 g) w3 w3.drew := Chg.ofExt (Ext.refl w3).drew
       clear hcH
       replace B2 := Ext.block ((Ext.refl w3).drew) B2
       replace B3 := Ext.block ((Ext.refl w3).drew) B3
       replace B4 := Ext.block ((Ext.refl w3).drew) B4
       replace B5 := Ext.block ((Ext.refl w3).drew) B5
       replace RA := Own.ext RA ((Ext.refl w3).drew)
       replace u_RA := Nat.le_trans u_RA ((Ext.refl w3).drew).size
       replace RL := Own.ext RL ((Ext.refl w3).drew)
       replace u_RL := Nat.le_trans u_RL ((Ext.refl w3).drew).size
       replace RP := Own.ext RP ((Ext.refl w3).drew)
       replace u_RP := Nat.le_trans u_RP ((Ext.refl w3).drew).size
       replace s := s.ext ((Ext.refl w3).drew)
       obtain ⟨wd, hnw⟩ : ∃ wn, wn = w3.drew := ⟨_, rfl⟩
       rw [← hnw] at B2 B3 B4 B5 RA RL RP u_RA u_RL u_RP s hch ⊢
       clear hnw
       repeat (first | go_big_quiet_step (fail) | quiet_step (fail))
       refine wpQuiet_nil ?_
       go_wp2_with fail
       refine (s_l1Below g (9) _ _ _ s.c).mono ?_
       rintro e w4 ⟨ad, rfl, had0, had1, hcq, hzq⟩
       replace B2 := hzq.blkS B2 (by unfold at1; omega)
       replace B3 := hzq.blkS B3 (by unfold at1; omega)
       replace B4 := hzq.blkS B4 (by unfold at1; omega)
       replace B5 := hzq.blkS B5 (by unfold at1; omega)
       replace RA := Own.at1g RA hzq (.inl g_RA)
       replace u_RA := Nat.le_trans u_RA hzq.size
       replace RL := Own.at1g RL hzq (.inl g_RL)
       replace u_RL := Nat.le_trans u_RL hzq.size
       replace RP := Own.at1g RP hzq (.inl g_RP)
       replace u_RP := Nat.le_trans u_RP hzq.size
       replace s := s.draw hcq hzq
       replace hch := hch.trans (hzq.mono (fun b h => h))
       clear hzq hcq
       go_wp2_with fail
       refine ⟨⟨⟨_, hch⟩, rfl⟩, ?_⟩
       repeat (first | go_big_quiet_step (fail) | quiet_step (fail))
       refine wpQuiet_nil ?_
       obtain ⟨bq, offq, hbo, hcH⟩ := Hop.at (OwnF.rd (hf := Hop.flen) RP.1) kk hkk
       cases hbo
       simp only [Nat.zero_add] at hcH
       obtain ⟨hS, hgS⟩ := OwnF.put1 Hop.flen (Own.toF RP) kk hkk 0 (by decide) (.int .i64 ad) { x.hops[kk] with asn := ad } rfl
       have hcS : Chg (at1 gh) w4 (w4.setCell ⟨gh, kk * 5 + 0, none⟩ (.int .i64 ad)) := Chg.setC (S := at1 gh) (p := ⟨gh, kk * 5 + 0, none⟩) (Chg.refl _ _) rfl _
       obtain ⟨wS, hwS⟩ : ∃ wS, wS = w4.setCell ⟨gh, kk * 5 + 0, none⟩ (.int .i64 ad) := ⟨_, rfl⟩
       rw [← hwS] at hS hgS hcS
       obtain ⟨ln, hln⟩ : ∃ ln, ln = x.hops.set kk { x.hops[kk] with asn := ad } := ⟨_, rfl⟩
       rw [← hln] at hS
       have hnl : ln.length ≤ 6 := by rw [hln]; simp; omega
       clear hln
       try simp only [Nat.add_zero] at hwS
       have HWS := Lib.hid hwS
       clear hwS hgS
       have fS := OwnF.free RP.1 (kk * 5 + 0)
       try simp only [Nat.add_zero] at fS
       go_wp2_with fail
       rw [← HWS.out]
       clear HWS fS hcH RP
       have RP : (Own.flat Hop.f 5 Hop.flen 146).own (rng m wS.heap.size) wS _ _ := Own.ofF hS
       clear hS
       replace RA := Own.at1g RA hcS (by omega)
       replace u_RA := Nat.le_trans u_RA hcS.size
       replace RL := Own.at1g RL hcS (by omega)
       replace u_RL := Nat.le_trans u_RL hcS.size
       replace B2 := hcS.blkS B2 (by unfold at1; omega)
       replace B3 := hcS.blkS B3 (by unfold at1; omega)
       replace B4 := hcS.blkS B4 (by unfold at1; omega)
       replace B5 := hcS.blkS B5 (by unfold at1; omega)
       have u_RP := Nat.le_refl wS.heap.size
       replace s := s.put hcS (fun i hi => by have h1 : i = gh := hi; omega)
       clear hcS
       refine NoPanic.normal ?_
       clear hch q0 q1 q2 q3 q4 q5 q6 q7 q8
       go_wp2_with fail
       go_meet
       exact ⟨{ x with hops := ln }, _, _, hnl, B2, B3, B4, B5, ⟨RA, u_RA⟩, ⟨RL, u_RL⟩, ⟨RP, u_RP⟩, s.c, s.x⟩
      ·
       have q3f : (q == 3) = false := by rw [beq_eq_false_iff_ne]; exact q3
       by_cases q4 : q = 4
       ·
        subst q4
        have cb_B2 := blk2 B2
        have cb_B3 := blk4 B3
        have cb_B4 := blk2 B4
        have cb_B5 := blk4 B5
        go_upto_region 15 with (fail)
        clear cb_B2 cb_B3 cb_B4 cb_B5
        replace B2 := Ext.block ((Ext.refl w3).drew) B2
        replace B3 := Ext.block ((Ext.refl w3).drew) B3
        replace B4 := Ext.block ((Ext.refl w3).drew) B4
        replace B5 := Ext.block ((Ext.refl w3).drew) B5
        replace RA := Own.ext RA ((Ext.refl w3).drew)
        replace u_RA := Nat.le_trans u_RA ((Ext.refl w3).drew).size
        replace RL := Own.ext RL ((Ext.refl w3).drew)
        replace u_RL := Nat.le_trans u_RL ((Ext.refl w3).drew).size
        replace RP := Own.ext RP ((Ext.refl w3).drew)
        replace u_RP := Nat.le_trans u_RP ((Ext.refl w3).drew).size
        replace s := s.ext ((Ext.refl w3).drew)
        refine planStep (.blk [0, 1, 2, 3, 4, 5, 6] (.one 7 (.one 8 (.blk [9] (.one 10 .done))))) [8, 10] (by kernel_rfl) (by kernel_rfl) ?_
        generalize w3.drew = wd at B2 B3 B4 B5 RA RL RP u_RA u_RL u_RP s ⊢
        obtain ⟨bq, offq, hbo, hcH⟩ := Hop.at (OwnF.rd (hf := Hop.flen) RP.1) kk hkk
        cases hbo
        simp only [Nat.zero_add] at hcH
        have cB := blk4 B5
        refine blkStep (fun K HK => ?_)
        simp only [PK]
        go_wp2_with fail
        refine HK.out _ _ ?_
        clear HK K
        clear cB hcH
        refine oneStep (fun K HK => ?_)
        simp only [PK]
        go_wp2_with fail
        refine HK.out _ _ ((Ext.refl _).alloc _) ?_
        clear HK K
        refine badStep (by kernel_rfl) (fun K HK => ?_)
        simp only [PK]
        have hsx := s.x.size
        have hszd : m ≤ wd.heap.size := by omega
        refine app1 E Hop.flen Hop.one rfl _ _ rfl x.hops[kk] rfl (OwnF.ext (Own.toF RP) ((Ext.refl _).alloc _)) rfl (by exact blk_list x.hops[kk].f (blk_new wd _)) (by omega) (by unfold maxLen; omega) (by exact Nat.le_trans hszd ((Ext.refl wd).alloc _).size) ?_
        intro v' w' ho' hg'
        have hxa : Ext wd (wd.alloc (.cells #[.int .i64 x.hops[kk].asn, .int .i64 x.hops[kk].ing, .int .i64 x.hops[kk].eg, .int .i64 x.hops[kk].exp, .int .i64 x.hops[kk].mac] 146)) := (Ext.refl _).alloc _
        have hxg : Chg (at1 gh) (wd.alloc (.cells #[.int .i64 x.hops[kk].asn, .int .i64 x.hops[kk].ing, .int .i64 x.hops[kk].eg, .int .i64 x.hops[kk].exp, .int .i64 x.hops[kk].mac] 146)) w' := Chg.ofGrown hg' (fun k hk => by cases hk; rfl)
        have hxn : Chg (at1 gh) wd w' := (Chg.ofExt hxa).trans hxg
        clear hg' hxa hxg
        obtain ⟨ln, hln⟩ : ∃ ln, ln = x.hops ++ [x.hops[kk]] := ⟨_, rfl⟩
        rw [← hln] at ho'
        have hnl : ln.length ≤ 6 := by rw [hln]; simp; omega
        clear hln RP
        have RP : (Own.flat Hop.f 5 Hop.flen 146).own (rng m w'.heap.size) w' _ _ := Own.ofF ho'
        clear ho'
        obtain ⟨on, cn, rfl, _⟩ := (OwnF.rd (hf := Hop.flen) RP.1).shape
        replace RA := Own.at1g RA hxn (by omega)
        replace u_RA := Nat.le_trans u_RA hxn.size
        replace RL := Own.at1g RL hxn (by omega)
        replace u_RL := Nat.le_trans u_RL hxn.size
        replace B2 := hxn.blkS B2 (by unfold at1; omega)
        replace B3 := hxn.blkS B3 (by unfold at1; omega)
        replace B4 := hxn.blkS B4 (by unfold at1; omega)
        replace B5 := hxn.blkS B5 (by unfold at1; omega)
        have u_RP := Nat.le_refl w'.heap.size
        replace s := s.put hxn (fun i hi => by have h1 : i = gh := hi; omega)
        have hb5 : b4 + 1 < m ∨ m ≤ b4 + 1 := by omega
        clear hxn hsx hszd hb5
        go_wp2_with fail
        refine HK.out _ _ ?_
        clear HK K
        refine blkStep (fun K HK => ?_)
        simp only [PK]
        go_wp2_with fail
        refine HK.out _ _ ?_
        clear HK K
        obtain ⟨wpn, hwn, hbn, hcn⟩ := one_set B5 3 (.slice on ln.length cn)
        simp only [List.setIfInBounds_toArray, List.set_cons_succ, List.set_cons_zero] at hbn
        have HWn := Lib.hid hwn
        clear hwn
        have ff3 := fr_of B5 3
        have cB := blk4 B5
        refine badStep (by kernel_rfl) (fun K HK => ?_)
        simp only [PK]
        go_wp2_with fail
        refine HK.out _ _ ?_
        clear HK K
        rw [← HWn.out]
        clear HWn ff3 cB
        have oR := Own.toF RP
        have hne5 := OwnF.ne RP.1 B5 (by decide)
        replace oR := oR.chg hcn (fun q hq e => by have e2 : q = b4 + 1 := e; rw [e2] at hq; exact hne5 hq)
        clear RP u_RP hne5
        have RP : (Own.flat Hop.f 5 Hop.flen 146).own (rng m wpn.heap.size) wpn _ _ := Own.ofF oR
        clear oR
        have u_RP := Nat.le_refl wpn.heap.size
        replace RA := Own.at1g RA hcn (by omega)
        replace u_RA := Nat.le_trans u_RA hcn.size
        replace RL := Own.at1g RL hcn (by omega)
        replace u_RL := Nat.le_trans u_RL hcn.size
        replace B2 := hcn.blkS B2 (by unfold at1; omega)
        replace B3 := hcn.blkS B3 (by unfold at1; omega)
        replace B4 := hcn.blkS B4 (by unfold at1; omega)
        replace B5 := hbn
        clear hbn
        replace s := s.put hcn (fun i hi => by have h1 : i = (b4 + 1) := hi; omega)
        try clear hcn
        refine doneStep (by kernel_rfl) ?_
        go_wp2_with fail
        go_meet
        exact ⟨{ x with hops := ln }, _, _, hnl, B2, B3, B4, B5, ⟨RA, u_RA⟩, ⟨RL, u_RL⟩, ⟨RP, u_RP⟩, s.c, s.x⟩
       ·
        have q4f : (q == 4) = false := by rw [beq_eq_false_iff_ne]; exact q4
        go_wp2_with fail
        go_meet
        exact ⟨x, _, _, by omega, B2, B3, B4, B5, ⟨RA, u_RA⟩, ⟨RL, u_RL⟩, ⟨RP, u_RP⟩, s.c, s.x⟩
  case rest =>
   have hc0z := s.c0
   clear s B2 B3 B4 B5 RA RL RP u_RA u_RL u_RP
   obtain ⟨y, u, hi, hy6, B2, B3, B4, B5, ⟨RA, u_RA⟩, ⟨RL, u_RL⟩, ⟨RP, u_RP⟩, hcC, hcX⟩ := hcut
   obtain ⟨wz, hwz⟩ : ∃ wz : World, wz = wc := ⟨_, rfl⟩
   subst hwz
   have s : DSt g cv cd w wz := ⟨hcC, hcX, hc0z⟩
   clear hcC hcX hc0z
   obtain ⟨oq_, cq_, rfl, _⟩ := (OwnF.rd (hf := Hop.flen) RP.1).shape
   go_upto_region 16 with (fail)
   refine wp_region_fin (at1 w.heap.size) [([0, 1], 2)] [] [3] (by kernel_rfl) (by kernel_rfl) (by kernel_rfl) ?_
   have ch_B4 := blk2 B4
   have q0 := ChgSW.cell (S := at1 w.heap.size) (ch_B4.1) (by first | (unfold at1; simp only; omega) | (simp only; omega))
   have q1 := ChgSW.cell (S := at1 w.heap.size) (ch_B4.2) (by first | (unfold at1; simp only; omega) | (simp only; omega))
   clear ch_B4
   have ch_B5 := blk4 B5
   have q2 := ChgSW.cell (S := at1 w.heap.size) (ch_B5.1) (by first | (unfold at1; simp only; omega) | (simp only; omega))
   have q3 := ChgSW.cell (S := at1 w.heap.size) (ch_B5.2.1) (by first | (unfold at1; simp only; omega) | (simp only; omega))
   have q4 := ChgSW.cell (S := at1 w.heap.size) (ch_B5.2.2.1) (by first | (unfold at1; simp only; omega) | (simp only; omega))
   have q5 := ChgSW.cell (S := at1 w.heap.size) (ch_B5.2.2.2) (by first | (unfold at1; simp only; omega) | (simp only; omega))
   clear ch_B5
   simp only [wpBlocksX, pickOps, PK]
   have hch : Chg (at1 w.heap.size) wz wz.drew := Chg.ofExt (Ext.refl wz).drew
   replace B2 := Ext.block ((Ext.refl wz).drew) B2
   replace B3 := Ext.block ((Ext.refl wz).drew) B3
   replace B4 := Ext.block ((Ext.refl wz).drew) B4
   replace B5 := Ext.block ((Ext.refl wz).drew) B5
   replace RA := Own.ext RA ((Ext.refl wz).drew)
   replace u_RA := Nat.le_trans u_RA ((Ext.refl wz).drew).size
   replace RL := Own.ext RL ((Ext.refl wz).drew)
   replace u_RL := Nat.le_trans u_RL ((Ext.refl wz).drew).size
   replace RP := Own.ext RP ((Ext.refl wz).drew)
   replace u_RP := Nat.le_trans u_RP ((Ext.refl wz).drew).size
   replace s := s.ext ((Ext.refl wz).drew)
   obtain ⟨wt, hnw⟩ : ∃ wn, wn = wz.drew := ⟨_, rfl⟩
   rw [← hnw] at B2 B3 B4 B5 RA RL RP u_RA u_RL u_RP s hch ⊢
   clear hnw
   repeat (first | go_big_quiet_step (fail) | quiet_step (fail))
   refine wpQuiet_nil ?_
   obtain ⟨wpa, hwa, hba, hca⟩ := two_set B2 (.slice o1 t.ases.length c1) (.slice o2 t.links.length c2)
   have HWa := Lib.hid hwa
   clear hwa
   have ff0 := fr_of B2 0
   have ff1 := fr_of B2 1
   have cb := blk2 B2
   go_wp2_with fail
   rw [← HWa.out]
   clear HWa cb ff0 ff1
   replace hch := hch.trans (hca.mono (fun b h => h))
   refine ⟨⟨⟨_, hch⟩, rfl⟩, ?_⟩
   replace RA := Own.at1g RA hca (by omega)
   replace u_RA := Nat.le_trans u_RA hca.size
   replace RL := Own.at1g RL hca (by omega)
   replace u_RL := Nat.le_trans u_RL hca.size
   replace RP := Own.at1g RP hca (by omega)
   replace u_RP := Nat.le_trans u_RP hca.size
   replace B3 := hca.blkS B3 (by unfold at1; omega)
   replace B4 := hca.blkS B4 (by unfold at1; omega)
   replace B5 := hca.blkS B5 (by unfold at1; omega)
   replace B2 := hba
   clear hba
   replace s := s.put hca (fun i hi => by have h1 : i = w.heap.size := hi; omega)
   try clear hca
   repeat (first | go_big_quiet_step (fail) | quiet_step (fail))
   refine wpQuiet_nil ?_
   obtain ⟨wpb, hwb, hbb, hcb⟩ := four_setP B3 (.int .i64 y.kind) (.int .i64 y.ts) (.int .i64 y.beta) (.slice oq_ y.hops.length cq_)
   have HWb := Lib.hid hwb
   clear hwb
   have ff0 := fr_of B3 0
   have ff1 := fr_of B3 1
   have ff2 := fr_of B3 2
   have ff3 := fr_of B3 3
   have cb := blk4 B3
   go_wp2_with fail
   rw [← HWb.out]
   clear HWb cb ff0 ff1 ff2 ff3
   replace RA := Own.at1g RA hcb (by omega)
   replace u_RA := Nat.le_trans u_RA hcb.size
   replace RL := Own.at1g RL hcb (by omega)
   replace u_RL := Nat.le_trans u_RL hcb.size
   replace RP := Own.at1g RP hcb (by omega)
   replace u_RP := Nat.le_trans u_RP hcb.size
   replace B2 := hcb.blkS B2 (by unfold at1; omega)
   replace B4 := hcb.blkS B4 (by unfold at1; omega)
   replace B5 := hcb.blkS B5 (by unfold at1; omega)
   replace B3 := hbb
   clear hbb
   replace s := s.put hcb (fun i hi => by have h1 : i = (w.heap.size + 1) := hi; omega)
   try clear hcb
   refine NoPanic.normal ?_
   clear hch q0 q1 q2 q3 q4 q5
   have cr_B2 := blk2 B2
   have cr_B3 := blk4 B3
   have cr_B4 := blk2 B4
   have cr_B5 := blk4 B5
   have hszE := s.x.size
   go_wp2_with fail
   refine bodyPost_ret (v := .tuple #[.agg #[.slice o1 t.ases.length c1, .slice o2 t.links.length c2], .agg #[.int .i64 y.kind, .int .i64 y.ts, .int .i64 y.beta, .slice oq_ y.hops.length cq_]]) (by simp [results, Try.results119, go_sem, cr_B2, cr_B3]) rfl ?_
   exact ⟨_, _, _, t, y, rfl, TK, hy6, (Own.upTo (Own.lo RA (by omega)) (Nat.le_refl _)), (Own.upTo (Own.lo RL (by omega)) (Nat.le_refl _)), (Own.upTo (Own.lo RP (by omega)) (Nat.le_refl _)), s.c, s.x⟩
set_option maxRecDepth 100000 in
set_option maxHeartbeats 20000000 in
theorem s_l21One (code : List Int) (cv : Value) (w : World) (hr : RdS Rep.byte w cv code) (hu : ∀ x ∈ code, U8 x) (hl : code.length ≤ 1048576) :
  Calls Try.prog 118 #[cv] w fun e w' => ∃ (g lo1 : Nat) (v : Value) (x : Part), e = .returned (.tuple #[.pointer (some ⟨g, 0, none⟩), .agg #[.int .i64 x.kind, .int .i64 x.ts, .int .i64 x.beta, v]]) ∧ x.hops.length ≤ 6 ∧ (Own.flat Hop.f 5 Hop.flen 146).own (rng lo1 w'.heap.size) w' v x.hops ∧ w.heap.size ≤ g ∧ g < lo1 ∧ Cur g cv code w' ∧ Ext w w' := by
 have hx0 : Ext w (w.alloc (.cells #[.int .i64 0, .int .i64 0, .int .i64 0, .slice none 0 0] 78)) := (Ext.refl _).alloc _
 have HB := blk_new w (.cells #[.int .i64 0, .int .i64 0, .int .i64 0, .slice none 0 0] 78)
 go_enter Try.func118, Try.ntmps118
 go_wp2_with fail
 refine (s_l1New code _ _ (hr.ext hx0) hu hl).mono ?_
 rintro e w1 ⟨g, rfl, hgl, hc1, hn1⟩
 have hgw := hc1.lt
 have s : DSt g cv code w1 w1 := ⟨hc1, Chg.refl _ _, hc1⟩
 have B3 := Ext.block hn1 HB
 have hgr : w.heap.size < g := by simp at hgl; omega
 clear HB
 clear hc1
 have cb_B3 := blk4 B3
 go_wp2_with fail
 clear cb_B3
 have hbs : w1.heap.size ≤ w1.heap.size := s.x.size
 have ltq_B3 : w.heap.size < w1.heap.size := blk_lt B3
 refine (s_l21Any g _ _ _ s.c).mono ?_
 rintro e w2 ⟨v1, v2, vp, t, x, rfl, TK, hx6, RA, RL, RP, hcq, hzq⟩
 replace B3 := hzq.blkS B3 (by unfold at1; omega)
 replace s := s.draw hcq hzq
 obtain ⟨o1, c1, rfl, _⟩ := RdS.shape (Own.rd _ RA)
 obtain ⟨o2, c2, rfl, _⟩ := RdS.shape (Own.rd _ RL)
 obtain ⟨op_, cp_, rfl, _⟩ := (OwnF.rd (hf := Hop.flen) RP.1).shape
 have g_RA : g < w1.heap.size := by omega
 have u_RA : w2.heap.size ≤ w2.heap.size := by omega
 have lt_B3_RA : w.heap.size < w1.heap.size := by omega
 have g_RL : g < w1.heap.size := by omega
 have u_RL : w2.heap.size ≤ w2.heap.size := by omega
 have lt_B3_RL : w.heap.size < w1.heap.size := by omega
 have g_RP : g < w1.heap.size := by omega
 have u_RP : w2.heap.size ≤ w2.heap.size := by omega
 have lt_B3_RP : w.heap.size < w1.heap.size := by omega
 clear hzq hcq hbs ltq_B3
 have cb_B3 := blk4 B3
 go_upto_region 3 with (fail)
 clear cb_B3
 have hxa := ext2 w2 (.cells #[.slice o1 t.ases.length c1, .slice o2 t.links.length c2] 41) (.cells #[.int .i64 x.kind, .int .i64 x.ts, .int .i64 x.beta, .slice op_ x.hops.length cp_] 78)
 have BB := al2 w2 (.cells #[.slice o1 t.ases.length c1, .slice o2 t.links.length c2] 41) (.cells #[.int .i64 x.kind, .int .i64 x.ts, .int .i64 x.beta, .slice op_ x.hops.length cp_] 78)
 obtain ⟨b6, eb6⟩ : ∃ b, b = w2.heap.size := ⟨_, rfl⟩
 have ltw_b6 : w1.heap.size ≤ b6 := by rw [eb6]; exact s.x.size
 have lt_B3_b6 : w.heap.size < b6 := by rw [eb6]; exact blk_lt B3
 have hb_RA_b6 : w2.heap.size ≤ b6 := by rw [eb6]; exact u_RA
 have hb_RL_b6 : w2.heap.size ≤ b6 := by rw [eb6]; exact u_RL
 have hb_RP_b6 : w2.heap.size ≤ b6 := by rw [eb6]; exact u_RP
 replace B3 := Ext.block hxa B3
 replace RA := Own.ext RA hxa
 replace u_RA := Nat.le_trans u_RA hxa.size
 replace RL := Own.ext RL hxa
 replace u_RL := Nat.le_trans u_RL hxa.size
 replace RP := Own.ext RP hxa
 replace u_RP := Nat.le_trans u_RP hxa.size
 replace s := s.ext hxa
 have B6 := BB.1
 have B7 := BB.2
 rw [← eb6] at B6 B7
 rw [← eb6]
 clear hxa BB
 generalize ((w2.alloc (.cells #[.slice o1 t.ases.length c1, .slice o2 t.links.length c2] 41)).alloc (.cells #[.int .i64 x.kind, .int .i64 x.ts, .int .i64 x.beta, .slice op_ x.hops.length cp_] 78)) = wa at B3 B6 B7 RA RL RP u_RA u_RL u_RP s ⊢
 clear eb6
 refine wp_region_fin (fun _ => False) [] [0, 1, 2] [3] (by kernel_rfl) (by kernel_rfl) (by kernel_rfl) ?_
 have ch_B7 := blk4 B7
 have q0 := ChgSW.cell (S := fun _ => False) (ch_B7.1) (fun h => h)
 have q1 := ChgSW.cell (S := fun _ => False) (ch_B7.2.1) (fun h => h)
 have q2 := ChgSW.cell (S := fun _ => False) (ch_B7.2.2.1) (fun h => h)
 have q3 := ChgSW.cell (S := fun _ => False) (ch_B7.2.2.2) (fun h => h)
 clear ch_B7
 simp only [wpBlocksX, pickOps, PK]
 have hch : Chg (fun _ => False) wa wa.drew := Chg.ofExt (Ext.refl wa).drew
 replace B3 := Ext.block ((Ext.refl wa).drew) B3
 replace B6 := Ext.block ((Ext.refl wa).drew) B6
 replace B7 := Ext.block ((Ext.refl wa).drew) B7
 replace RA := Own.ext RA ((Ext.refl wa).drew)
 replace u_RA := Nat.le_trans u_RA ((Ext.refl wa).drew).size
 replace RL := Own.ext RL ((Ext.refl wa).drew)
 replace u_RL := Nat.le_trans u_RL ((Ext.refl wa).drew).size
 replace RP := Own.ext RP ((Ext.refl wa).drew)
 replace u_RP := Nat.le_trans u_RP ((Ext.refl wa).drew).size
 replace s := s.ext ((Ext.refl wa).drew)
 obtain ⟨wt, hnw⟩ : ∃ wn, wn = wa.drew := ⟨_, rfl⟩
 rw [← hnw] at B3 B6 B7 RA RL RP u_RA u_RL u_RP s hch ⊢
 clear hnw
 repeat (first | go_big_quiet_step (fail) | quiet_step (fail))
 refine wpQuiet_nil ?_
 have hcu := s.c
 have hxe := hx0.trans (hn1.ofCur s.x hgl)
 obtain ⟨wpb, hwb, hbb, hcb⟩ := four_setP B3 (.int .i64 x.kind) (.int .i64 x.ts) (.int .i64 x.beta) (.slice op_ x.hops.length cp_)
 have HWb := Lib.hid hwb
 clear hwb
 have ff0 := fr_of B3 0
 have ff1 := fr_of B3 1
 have ff2 := fr_of B3 2
 have ff3 := fr_of B3 3
 have cb := blk4 B3
 go_wp2_with fail
 rw [← HWb.out]
 clear HWb cb ff0 ff1 ff2 ff3
 replace RA := Own.at1g RA hcb (by omega)
 replace u_RA := Nat.le_trans u_RA hcb.size
 replace RL := Own.at1g RL hcb (by omega)
 replace u_RL := Nat.le_trans u_RL hcb.size
 replace RP := Own.at1g RP hcb (by omega)
 replace u_RP := Nat.le_trans u_RP hcb.size
 replace B6 := hcb.blkS B6 (by unfold at1; omega)
 replace B7 := hcb.blkS B7 (by unfold at1; omega)
 replace B3 := hbb
 clear hbb
 replace hxe := hxe.chg hcb (fun i hi => by have h1 : i = w.heap.size := hi; omega)
 replace hcu := Cur.ofCode hr hcu hcb (fun h => by have h1 : g = w.heap.size := h; omega) hxe (by omega)
 try clear hcb
 refine NoPanic.normal ?_
 clear hch q0 q1 q2 q3
 have cr_B3 := blk4 B3
 have cr_B6 := blk2 B6
 have cr_B7 := blk4 B7
 have hwb := (hx0.trans hn1).size
 go_wp2_with fail
 refine bodyPost_ret (v := .tuple #[.pointer (some ⟨g, 0, none⟩), .agg #[.int .i64 x.kind, .int .i64 x.ts, .int .i64 x.beta, .slice op_ x.hops.length cp_]]) (by simp [results, Try.results118, go_sem, cr_B3]) rfl ?_
 exact ⟨g, _, _, x, rfl, hx6, (Own.upTo RP (Nat.le_refl _)), (by omega), g_RP, hcu, hxe⟩
end
end Go.Proofs.Ytikbeiafobnblaa
