/- What these laws need: FnLeases: The draws of the code: reservations with a path. -/
import Derived.Test.YtikbeiafobnblaaKQ48
namespace Go.Proofs.Ytikbeiafobnblaa
section
open Go.ChangeShapes Go.WideShapes Go.ChangeAt Go.RowKit Go.Deep
theorem reserve_max (rs : List Resv) (id : Int) (y : Pth) (rate till c now : Int) : (reservePath rs id y rate till c now).1.length ≤ max rs.length 40 := by
 unfold reservePath
 cases h : rsvGo id rate till c now (egSteps (pathSteps y.parts)) rs with
 | none => exact Nat.le_max_left _ _
 | some out => exact rsvGo_max id rate till c now _ _ _ h
theorem s_l1IntS (g : Nat) (l : List Int) (va v : Value) (code : List Int) (w : World) (hc : Cur g v code w) (hs : St g Rep.int w va l) (hl : 0 < l.length) (hm : l.length ≤ 1048576) :
  Calls Try.prog 117 #[.pointer (some ⟨g, 0, none⟩), va] w fun e w' => ∃ r : Int, e = .returned (.int .i64 r) ∧ r ∈ l ∧ Cur g v code w' ∧ Chg (at1 g) w w' := by
 obtain ⟨o, cap, rfl, _⟩ := hs.rd.shape
 go_enter Try.func117, Try.ntmps117
 go_wp2_with fail
 refine (s_l1Below g l.length v code _ hc).mono ?_
 rintro e w1 ⟨x, rfl, hx0, hx1, hc1, hz1⟩
 obtain ⟨k, rfl⟩ := Int.eq_ofNat_of_zero_le hx0
 have hk : k < l.length := by omega
 clear hx1
 obtain ⟨b, off, rfl, hcell⟩ := ints_at (hs.step hz1).rd k hk
 go_wp2_with fail
 go_ret
 exact ⟨_, rfl, List.getElem_mem hk, hc1, hz1⟩
set_option maxRecDepth 100000 in
set_option maxHeartbeats 20000000 in
theorem s_l33Pair (code : List Int) (cv : Value) (w : World) (hr : RdS Rep.byte w cv code) (hu : ∀ x ∈ code, U8 x) (hl : code.length ≤ 1048576) :
  Calls Try.prog 140 #[cv] w fun e w' => ∃ (g lo1 : Nat) (vl vp : Value) (l : List Resv) (p : Pth), e = .returned (.tuple #[.pointer (some ⟨g, 0, none⟩), vl, .agg #[vp]]) ∧ l.length ≤ 50 ∧ p.parts.length ≤ 4 ∧ (∀ x ∈ p.parts, x.hops.length ≤ 5) ∧ (Own.keep Resv.rep).own (rng lo1 w'.heap.size) w' vl l ∧ (Own.keep Part.rep).own (rng lo1 w'.heap.size) w' vp p.parts ∧ w.heap.size ≤ g ∧ g < lo1 ∧ Cur g cv code w' ∧ Ext w w' := by
 have hx0 : Ext w (w.alloc (.cells #[.slice none 0 0] 46)) := (Ext.refl _).alloc _
 have HB := blk_new w (.cells #[.slice none 0 0] 46)
 go_enter Try.func140, Try.ntmps140
 go_wp2_with fail
 refine (s_l22One code _ _ (hr.ext hx0) hu hl).mono ?_
 rintro e w1 ⟨g, lo1, v1, v2, vp, t, p, rfl, TK, hp4, hx5, RA, RL, RP, hgl, hglo, hc1, hn1⟩
 have hgw := hc1.lt
 have s : DSt g cv code w1 w1 := ⟨hc1, Chg.refl _ _, hc1⟩
 have B4 := Ext.block hn1 HB
 have hgr : w.heap.size < g := by simp at hgl; omega
 clear HB
 have g_RA : g < lo1 := hglo
 have u_RA : w1.heap.size ≤ w1.heap.size := Nat.le_refl _
 have lt_B4_RA : w.heap.size < lo1 := by omega
 have g_RL : g < lo1 := hglo
 have u_RL : w1.heap.size ≤ w1.heap.size := Nat.le_refl _
 have lt_B4_RL : w.heap.size < lo1 := by omega
 have g_RP : g < lo1 := hglo
 have u_RP : w1.heap.size ≤ w1.heap.size := Nat.le_refl _
 have lt_B4_RP : w.heap.size < lo1 := by omega
 obtain ⟨o1, c1, rfl, _⟩ := RdS.shape (Own.rd _ RA)
 obtain ⟨o2, c2, rfl, _⟩ := RdS.shape (Own.rd _ RL)
 obtain ⟨op_, cp_, rfl, _⟩ := RdS.shape (Own.rd _ RP)
 clear hc1
 have cb_B4 := blk1 B4
 go_upto_region 2 with (fail)
 clear cb_B4
 have hxa := ext2 w1 (.cells #[.slice o1 t.ases.length c1, .slice o2 t.links.length c2] 41) (.cells #[.slice op_ p.parts.length cp_] 46)
 have BB := al2 w1 (.cells #[.slice o1 t.ases.length c1, .slice o2 t.links.length c2] 41) (.cells #[.slice op_ p.parts.length cp_] 46)
 obtain ⟨b6, eb6⟩ : ∃ b, b = w1.heap.size := ⟨_, rfl⟩
 have ltw_b6 : w1.heap.size ≤ b6 := by rw [eb6]; exact s.x.size
 have lt_B4_b6 : w.heap.size < b6 := by rw [eb6]; exact blk_lt B4
 have hb_RA_b6 : w1.heap.size ≤ b6 := by rw [eb6]; exact u_RA
 have hb_RL_b6 : w1.heap.size ≤ b6 := by rw [eb6]; exact u_RL
 have hb_RP_b6 : w1.heap.size ≤ b6 := by rw [eb6]; exact u_RP
 replace B4 := Ext.block hxa B4
 replace RA := Own.ext RA hxa
 replace u_RA := Nat.le_trans u_RA hxa.size
 replace RL := Own.ext RL hxa
 replace u_RL := Nat.le_trans u_RL hxa.size
 replace RP := Own.ext RP hxa
 replace u_RP := Nat.le_trans u_RP hxa.size
 replace s := s.ext hxa
 have B6 := BB.1
 have B7 := BB.2
 rw [← eb6] at B6 B7
 rw [← eb6]
 clear hxa BB
 generalize ((w1.alloc (.cells #[.slice o1 t.ases.length c1, .slice o2 t.links.length c2] 41)).alloc (.cells #[.slice op_ p.parts.length cp_] 46)) = wa at B4 B6 B7 RA RL RP u_RA u_RL u_RP s ⊢
 clear eb6
 clear B6
 clear u_RA g_RA
 clear RA
 clear u_RL g_RL
 clear RL
 have cb_B4 := blk1 B4
 have cb_B7 := blk1 B7
 go_wp2_with fail
 clear cb_B4 cb_B7
 have hbs : w1.heap.size ≤ wa.heap.size := s.x.size
 have ltq_B4 : w.heap.size < wa.heap.size := blk_lt B4
 have ltq_B7 : (b6 + 1) < wa.heap.size := blk_lt B7
 refine (s_l32List g _ _ _ s.c).mono ?_
 rintro e w2 ⟨vl, l, rfl, hl50, OL, hcq, hzq⟩
 replace B4 := hzq.blkS B4 (by unfold at1; omega)
 replace B7 := hzq.blkS B7 (by unfold at1; omega)
 replace RP := Own.at1g RP hzq (.inl g_RP)
 replace u_RP := Nat.le_trans u_RP hzq.size
 replace s := s.draw hcq hzq
 have RQ : (Own.keep Resv.rep).own (rng wa.heap.size w2.heap.size) w2 vl l := Own.toKeep (Own.ofFr (hf := Resv.flen) OL (Nat.le_refl _))
 clear OL
 obtain ⟨oq, cq, rfl, _⟩ := RdS.shape (Own.rd _ RQ)
 have g_RQ : g < wa.heap.size := by omega
 have u_RQ : w2.heap.size ≤ w2.heap.size := by omega
 have lt_B4_RQ : w.heap.size < wa.heap.size := by omega
 have lt_B7_RQ : (b6 + 1) < wa.heap.size := by omega
 clear hzq hcq hbs ltq_B4 ltq_B7
 have hps := pth_size hp4 hx5
 have cb_B4 := blk1 B4
 have cb_B7 := blk1 B7
 go_wp2_with fail
 clear cb_B4 cb_B7
 refine (s_l1Once g (2) _ _ _ s.c).mono ?_
 rintro e w3 ⟨b1, rfl, hcq, hzq⟩
 replace B4 := hzq.blkS B4 (by unfold at1; omega)
 replace B7 := hzq.blkS B7 (by unfold at1; omega)
 replace RP := Own.at1g RP hzq (.inl g_RP)
 replace u_RP := Nat.le_trans u_RP hzq.size
 replace RQ := Own.at1g RQ hzq (.inl g_RQ)
 replace u_RQ := Nat.le_trans u_RQ hzq.size
 replace s := s.draw hcq hzq
 clear hzq hcq
 cases b1
 case false =>
  have HLN := Lib.hid hl50
  have cb_B4 := blk1 B4
  have cb_B7 := blk1 B7
  go_upto_region 5 with (fail)
  clear cb_B4 cb_B7
  refine wp_region_fin (fun _ => False) [] [0, 1, 2, 3, 4] [5] (by kernel_rfl) (by kernel_rfl) (by kernel_rfl) ?_
  have ch_B7 := blk1 B7
  have q0 := ChgSW.cell (S := fun _ => False) (ch_B7) (fun h => h)
  clear ch_B7
  simp only [wpBlocksX, pickOps, PK]
  have hch : Chg (fun _ => False) w3 w3.drew := Chg.ofExt (Ext.refl w3).drew
  replace B4 := Ext.block ((Ext.refl w3).drew) B4
  replace B7 := Ext.block ((Ext.refl w3).drew) B7
  replace RP := Own.ext RP ((Ext.refl w3).drew)
  replace u_RP := Nat.le_trans u_RP ((Ext.refl w3).drew).size
  replace RQ := Own.ext RQ ((Ext.refl w3).drew)
  replace u_RQ := Nat.le_trans u_RQ ((Ext.refl w3).drew).size
  replace s := s.ext ((Ext.refl w3).drew)
  obtain ⟨wt, hnw⟩ : ∃ wn, wn = w3.drew := ⟨_, rfl⟩
  rw [← hnw] at B4 B7 RP RQ u_RP u_RQ s hch ⊢
  clear hnw
  repeat (first | go_big_quiet_step (fail) | quiet_step (fail))
  refine wpQuiet_nil ?_
  have hcu := s.c
  have hxe := hx0.trans (hn1.ofCur s.x hgl)
  obtain ⟨wpb, hwb, hbb, hcb⟩ := set1 B4 (.slice op_ p.parts.length cp_)
  have HWb := Lib.hid hwb
  clear hwb
  have ff0 := fr_of B4 0
  have cb := blk1 B4
  go_wp2_with fail
  rw [← HWb.out]
  clear HWb cb ff0
  replace RP := Own.at1g RP hcb (by omega)
  replace u_RP := Nat.le_trans u_RP hcb.size
  replace RQ := Own.at1g RQ hcb (by omega)
  replace u_RQ := Nat.le_trans u_RQ hcb.size
  replace B7 := hcb.blkS B7 (by unfold at1; omega)
  replace B4 := hbb
  clear hbb
  replace hxe := hxe.chg hcb (fun i hi => by have h1 : i = w.heap.size := hi; omega)
  replace hcu := Cur.ofCode hr hcu hcb (fun h => by have h1 : g = w.heap.size := h; omega) hxe (by omega)
  try clear hcb
  refine NoPanic.normal ?_
  clear hch q0
  have cr_B4 := blk1 B4
  have cr_B7 := blk1 B7
  have hwb := (hx0.trans hn1).size
  go_wp2_with fail
  refine bodyPost_ret (v := .tuple #[.pointer (some ⟨g, 0, none⟩), .slice oq l.length cq, .agg #[.slice op_ p.parts.length cp_]]) (by simp [results, Try.results140, go_sem, cr_B4]) rfl ?_
  exact ⟨g, g + 1, _, _, l, p, rfl, HLN.out, hp4, hx5, (Own.upTo (Own.lo RQ (by omega)) (Nat.le_refl _)), (Own.upTo (Own.lo RP (by omega)) (Nat.le_refl _)), (by omega), Nat.lt_succ_self g, hcu, hxe⟩
 case true =>
  have cb_B4 := blk1 B4
  have cb_B7 := blk1 B7
  go_upto_region 4 with (fail)
  clear cb_B4 cb_B7
  refine wp_region_fin (at1 g) [([0, 1, 4, 5], 2), ([3], 6), ([7], 8)] [9, 10, 11, 12] [] (by kernel_rfl) (by kernel_rfl) (by kernel_rfl) ?_
  have ch_B7 := blk1 B7
  have q0 := ChgSW.cell (S := at1 g) (ch_B7) (by first | (unfold at1; simp only; omega) | (simp only; omega))
  clear ch_B7
  simp only [wpBlocksX, pickOps, PK]
  have hch : Chg (at1 g) w3 w3.drew := Chg.ofExt (Ext.refl w3).drew
  replace B4 := Ext.block ((Ext.refl w3).drew) B4
  replace B7 := Ext.block ((Ext.refl w3).drew) B7
  replace RP := Own.ext RP ((Ext.refl w3).drew)
  replace u_RP := Nat.le_trans u_RP ((Ext.refl w3).drew).size
  replace RQ := Own.ext RQ ((Ext.refl w3).drew)
  replace u_RQ := Nat.le_trans u_RQ ((Ext.refl w3).drew).size
  replace s := s.ext ((Ext.refl w3).drew)
  obtain ⟨wt, hnw⟩ : ∃ wn, wn = w3.drew := ⟨_, rfl⟩
  rw [← hnw] at B4 B7 RP RQ u_RP u_RQ s hch ⊢
  clear hnw
  repeat (first | go_big_quiet_step (fail) | quiet_step (fail))
  refine wpQuiet_nil ?_
  go_wp2_with fail
  refine (s_l1Below g (4) _ _ _ s.c).mono ?_
  rintro e w4 ⟨ia, rfl, ha0, ha1, hcq, hzq⟩
  replace B4 := hzq.blkS B4 (by unfold at1; omega)
  replace B7 := hzq.blkS B7 (by unfold at1; omega)
  replace RP := Own.at1g RP hzq (.inl g_RP)
  replace u_RP := Nat.le_trans u_RP hzq.size
  replace RQ := Own.at1g RQ hzq (.inl g_RQ)
  replace u_RQ := Nat.le_trans u_RQ hzq.size
  replace s := s.draw hcq hzq
  replace hch := hch.trans (hzq.mono (fun b h => h))
  clear hzq hcq
  go_wp2_with fail
  refine ⟨⟨⟨_, hch⟩, rfl⟩, ?_⟩
  repeat (first | go_big_quiet_step (fail) | quiet_step (fail))
  refine wpQuiet_nil ?_
  go_wp2_with fail
  refine (s_l1Below g (3) _ _ _ s.c).mono ?_
  rintro e w5 ⟨ib, rfl, hb0, hb1, hcq, hzq⟩
  replace B4 := hzq.blkS B4 (by unfold at1; omega)
  replace B7 := hzq.blkS B7 (by unfold at1; omega)
  replace RP := Own.at1g RP hzq (.inl g_RP)
  replace u_RP := Nat.le_trans u_RP hzq.size
  replace RQ := Own.at1g RQ hzq (.inl g_RQ)
  replace u_RQ := Nat.le_trans u_RQ hzq.size
  replace s := s.draw hcq hzq
  replace hch := hch.trans (hzq.mono (fun b h => h))
  clear hzq hcq
  go_wp2_with fail
  refine ⟨⟨⟨_, hch⟩, rfl⟩, ?_⟩
  repeat (first | go_big_quiet_step (fail) | quiet_step (fail))
  refine wpQuiet_nil ?_
  go_wp2_with fail
  have hbs : w1.heap.size ≤ w5.heap.size := s.x.size
  have ltq_B4 : w.heap.size < w5.heap.size := blk_lt B4
  have ltq_B7 : (b6 + 1) < w5.heap.size := blk_lt B7
  refine (s_ReservePath l _ (1 + ia) p _ (1 + ib) 60 8 45 _ (Own.rd _ RQ) (Own.rd _ RP) (by omega) (by omega)).mono ?_
  rintro e w6 ⟨vn, rfl, ON, hzq⟩
  replace B4 := Ext.block hzq B4
  replace B7 := Ext.block hzq B7
  replace RP := Own.ext RP hzq
  replace u_RP := Nat.le_trans u_RP hzq.size
  replace RQ := Own.ext RQ hzq
  replace u_RQ := Nat.le_trans u_RQ hzq.size
  replace s := s.ext hzq
  replace hch := hch.trans ((Chg.ofExt hzq))
  obtain ⟨ln, hln⟩ : ∃ ln, ln = (reservePath l (1 + ia) p (1 + ib) 60 8 45).1 := ⟨_, rfl⟩
  rw [← hln] at ON
  have hlm : ln.length ≤ 50 := by rw [hln]; have h1 := reserve_max l (1 + ia) p (1 + ib) 60 8 45; omega
  have HLN := Lib.hid hlm
  clear hln hlm
  have RN : (Own.keep Resv.rep).own (rng w5.heap.size w6.heap.size) w6 vn ln := Own.toKeep (Own.ofFr (hf := Resv.flen) ON (Nat.le_refl _))
  clear ON
  obtain ⟨on, cn, rfl, _⟩ := RdS.shape (Own.rd _ RN)
  have g_RN : g < w5.heap.size := by omega
  have u_RN : w6.heap.size ≤ w6.heap.size := by omega
  have lt_B4_RN : w.heap.size < w5.heap.size := by omega
  have lt_B7_RN : (b6 + 1) < w5.heap.size := by omega
  clear hzq hbs ltq_B4 ltq_B7
  go_wp2_with fail
  refine ⟨⟨⟨_, hch⟩, rfl⟩, ?_⟩
  repeat (first | go_big_quiet_step (fail) | quiet_step (fail))
  refine wpQuiet_nil ?_
  refine NoPanic.normal ?_
  clear hch q0
  have cb_B4 := blk1 B4
  have cb_B7 := blk1 B7
  go_upto_region 5 with (fail)
  clear cb_B4 cb_B7
  refine wp_region_fin (fun _ => False) [] [0, 1, 2, 3, 4] [5] (by kernel_rfl) (by kernel_rfl) (by kernel_rfl) ?_
  have ch_B7 := blk1 B7
  have q0 := ChgSW.cell (S := fun _ => False) (ch_B7) (fun h => h)
  clear ch_B7
  simp only [wpBlocksX, pickOps, PK]
  have hch : Chg (fun _ => False) w6 w6.drew := Chg.ofExt (Ext.refl w6).drew
  replace B4 := Ext.block ((Ext.refl w6).drew) B4
  replace B7 := Ext.block ((Ext.refl w6).drew) B7
  replace RP := Own.ext RP ((Ext.refl w6).drew)
  replace u_RP := Nat.le_trans u_RP ((Ext.refl w6).drew).size
  replace RQ := Own.ext RQ ((Ext.refl w6).drew)
  replace u_RQ := Nat.le_trans u_RQ ((Ext.refl w6).drew).size
  replace RN := Own.ext RN ((Ext.refl w6).drew)
  replace u_RN := Nat.le_trans u_RN ((Ext.refl w6).drew).size
  replace s := s.ext ((Ext.refl w6).drew)
  obtain ⟨wt, hnw⟩ : ∃ wn, wn = w6.drew := ⟨_, rfl⟩
  rw [← hnw] at B4 B7 RP RQ RN u_RP u_RQ u_RN s hch ⊢
  clear hnw
  repeat (first | go_big_quiet_step (fail) | quiet_step (fail))
  refine wpQuiet_nil ?_
  have hcu := s.c
  have hxe := hx0.trans (hn1.ofCur s.x hgl)
  obtain ⟨wpb, hwb, hbb, hcb⟩ := set1 B4 (.slice op_ p.parts.length cp_)
  have HWb := Lib.hid hwb
  clear hwb
  have ff0 := fr_of B4 0
  have cb := blk1 B4
  go_wp2_with fail
  rw [← HWb.out]
  clear HWb cb ff0
  replace RP := Own.at1g RP hcb (by omega)
  replace u_RP := Nat.le_trans u_RP hcb.size
  replace RQ := Own.at1g RQ hcb (by omega)
  replace u_RQ := Nat.le_trans u_RQ hcb.size
  replace RN := Own.at1g RN hcb (by omega)
  replace u_RN := Nat.le_trans u_RN hcb.size
  replace B7 := hcb.blkS B7 (by unfold at1; omega)
  replace B4 := hbb
  clear hbb
  replace hxe := hxe.chg hcb (fun i hi => by have h1 : i = w.heap.size := hi; omega)
  replace hcu := Cur.ofCode hr hcu hcb (fun h => by have h1 : g = w.heap.size := h; omega) hxe (by omega)
  try clear hcb
  refine NoPanic.normal ?_
  clear hch q0
  have cr_B4 := blk1 B4
  have cr_B7 := blk1 B7
  have hwb := (hx0.trans hn1).size
  go_wp2_with fail
  refine bodyPost_ret (v := .tuple #[.pointer (some ⟨g, 0, none⟩), .slice on ln.length cn, .agg #[.slice op_ p.parts.length cp_]]) (by simp [results, Try.results140, go_sem, cr_B4]) rfl ?_
  exact ⟨g, g + 1, _, _, ln, p, rfl, HLN.out, hp4, hx5, (Own.upTo (Own.lo RN (by omega)) (Nat.le_refl _)), (Own.upTo (Own.lo RP (by omega)) (Nat.le_refl _)), (by omega), Nat.lt_succ_self g, hcu, hxe⟩
set_option maxRecDepth 100000 in
set_option maxHeartbeats 20000000 in
theorem s_DrawReservePath (code : List Int) (cv : Value) (w : World) (hr : RdS Rep.byte w cv code) (hu : ∀ x ∈ code, U8 x) (hl : code.length ≤ 1048576) :
  Calls Try.prog 49 #[cv] w fun e w' => ∃ (vl vp : Value) (l : List Resv) (p : Pth) (id rate till c : Int), e = .returned (.tuple #[vl, .int .i64 id, .agg #[vp], .int .i64 rate, .int .i64 till, .int .i64 c, .int .i64 45]) ∧ l.length ≤ 50 ∧ p.parts.length ≤ 4 ∧ (∀ x ∈ p.parts, x.hops.length ≤ 5) ∧ 1 ≤ id ∧ id ≤ 5 ∧ RdS Resv.rep w' vl l ∧ RdS Part.rep w' vp p.parts ∧ Ext w w' := by
 have hx0 : Ext w (w.alloc (.cells #[.slice none 0 0] 46)) := (Ext.refl _).alloc _
 have HB := blk_new w (.cells #[.slice none 0 0] 46)
 go_enter Try.func49, Try.ntmps49
 go_wp2_with fail
 refine (s_l33Pair code _ _ (hr.ext hx0) hu hl).mono ?_
 rintro e w1 ⟨g, lo1, vl, vp, l, p, rfl, hl50, hp4, hx5, RQ, RP, hgl, hglo, hc1, hn1⟩
 have hgw := hc1.lt
 have s : DSt g cv code w1 w1 := ⟨hc1, Chg.refl _ _, hc1⟩
 have B4 := Ext.block hn1 HB
 have hgr : w.heap.size < g := by simp at hgl; omega
 clear HB
 have g_RQ : g < lo1 := hglo
 have u_RQ : w1.heap.size ≤ w1.heap.size := Nat.le_refl _
 have lt_B4_RQ : w.heap.size < lo1 := by omega
 have g_RP : g < lo1 := hglo
 have u_RP : w1.heap.size ≤ w1.heap.size := Nat.le_refl _
 have lt_B4_RP : w.heap.size < lo1 := by omega
 obtain ⟨oq, cq, rfl, _⟩ := RdS.shape (Own.rd _ RQ)
 obtain ⟨op_, cp_, rfl, _⟩ := RdS.shape (Own.rd _ RP)
 clear hc1
 have cb_B4 := blk1 B4
 go_upto_region 2 with (fail)
 clear cb_B4
 have hxa : Ext w1 (w1.alloc (.cells #[.slice op_ p.parts.length cp_] 46)) := (Ext.refl _).alloc _
 have BB := blk_new w1 (.cells #[.slice op_ p.parts.length cp_] 46)
 obtain ⟨b11, eb11⟩ : ∃ b, b = w1.heap.size := ⟨_, rfl⟩
 have ltw_b11 : w1.heap.size ≤ b11 := by rw [eb11]; exact s.x.size
 have lt_B4_b11 : w.heap.size < b11 := by rw [eb11]; exact blk_lt B4
 have hb_RQ_b11 : w1.heap.size ≤ b11 := by rw [eb11]; exact u_RQ
 have hb_RP_b11 : w1.heap.size ≤ b11 := by rw [eb11]; exact u_RP
 replace B4 := Ext.block hxa B4
 replace RQ := Own.ext RQ hxa
 replace u_RQ := Nat.le_trans u_RQ hxa.size
 replace RP := Own.ext RP hxa
 replace u_RP := Nat.le_trans u_RP hxa.size
 replace s := s.ext hxa
 have B11 := BB
 rw [← eb11] at B11
 rw [← eb11]
 clear hxa BB
 generalize (w1.alloc (.cells #[.slice op_ p.parts.length cp_] 46)) = wa at B4 B11 RQ RP u_RQ u_RP s ⊢
 clear eb11
 have cb_B4 := blk1 B4
 have cb_B11 := blk1 B11
 go_wp2_with fail
 clear cb_B4 cb_B11
 refine (s_l1Below g (5) _ _ _ s.c).mono ?_
 rintro e w2 ⟨i5, rfl, hi0, hi1, hcq, hzq⟩
 replace B4 := hzq.blkS B4 (by unfold at1; omega)
 replace B11 := hzq.blkS B11 (by unfold at1; omega)
 replace RQ := Own.at1g RQ hzq (.inl g_RQ)
 replace u_RQ := Nat.le_trans u_RQ hzq.size
 replace RP := Own.at1g RP hzq (.inl g_RP)
 replace u_RP := Nat.le_trans u_RP hzq.size
 replace s := s.draw hcq hzq
 clear hzq hcq
 have cb_B4 := blk1 B4
 have cb_B11 := blk1 B11
 go_wp2_with fail
 clear cb_B4 cb_B11
 refine (s_l1Int g [1, 2, 5, 8, 0] _ _ w2 s.c (by decide) (by decide)).mono ?_
 rintro e w3 ⟨rt, rfl, hrt, hcq, hzq⟩
 replace B4 := hzq.blkS B4 (by unfold at1; omega)
 replace B11 := hzq.blkS B11 (by unfold at1; omega)
 replace RQ := Own.at1g RQ hzq (.inl g_RQ)
 replace u_RQ := Nat.le_trans u_RQ hzq.size
 replace RP := Own.at1g RP hzq (.inl g_RP)
 replace u_RP := Nat.le_trans u_RP hzq.size
 replace s := s.draw hcq hzq
 clear hrt
 clear hzq hcq
 have cb_B4 := blk1 B4
 have cb_B11 := blk1 B11
 go_upto_region 4 with (fail)
 clear cb_B4 cb_B11
 replace B4 := Ext.block ((Ext.refl w3).drew) B4
 replace B11 := Ext.block ((Ext.refl w3).drew) B11
 replace RQ := Own.ext RQ ((Ext.refl w3).drew)
 replace u_RQ := Nat.le_trans u_RQ ((Ext.refl w3).drew).size
 replace RP := Own.ext RP ((Ext.refl w3).drew)
 replace u_RP := Nat.le_trans u_RP ((Ext.refl w3).drew).size
 replace s := s.ext ((Ext.refl w3).drew)
 refine planStep (.blk [0, 1, 3, 4, 7] (.tri 2 5 8 (.two 5 8 (.blk [6] (.one 8 (.one 9 (.blk [10, 11] (.one 12 (.blk [13, 14, 15, 16] .done)))))) (.one 5 (.blk [6] (.one 9 (.blk [10, 11] (.one 12 (.blk [13, 14, 15, 16] .done))))))) (.blk [6] (.two 2 8 (.one 8 (.one 9 (.blk [10, 11] (.one 12 (.blk [13, 14, 15, 16] .done))))) (.two 2 9 (.one 9 (.blk [10, 11] (.one 12 (.blk [13, 14, 15, 16] .done)))) (.blk [10, 11] (.one 2 (.one 12 (.blk [13, 14, 15, 16] .done))))))) (.two 2 5 (.one 5 (.blk [6] (.one 9 (.blk [10, 11] (.one 12 (.blk [13, 14, 15, 16] .done)))))) (.blk [6] (.two 2 9 (.one 9 (.blk [10, 11] (.one 12 (.blk [13, 14, 15, 16] .done)))) (.blk [10, 11] (.one 2 (.one 12 (.blk [13, 14, 15, 16] .done))))))))) [5, 9, 12] (by kernel_rfl) (by kernel_rfl) ?_
 generalize w3.drew = wdd at B4 B11 RQ RP u_RQ u_RP s ⊢
 refine blkStep (fun K HK => ?_)
 simp only [PK]
 go_wp2_with fail
 refine HK.out _ _ ?_
 clear HK K
 refine triStep ?_ ?_ ?_
 ·
  have cB := blk1 B11
  refine oneStep (fun K HK => ?_)
  simp only [PK]
  go_wp2_with fail
  refine HK.out _ _ (Ext.refl _) ?_
  clear HK K cB
  refine twoStep ?_ ?_
  ·
   refine badStep (by kernel_rfl) (fun K HK => ?_)
   simp only [PK]
   go_wp2_with fail
   refine (s_l1Below g (30) _ _ _ s.c).mono ?_
   rintro e w4 ⟨na, rfl, hna0, hna1, hcq, hzq⟩
   replace B4 := hzq.blkS B4 (by unfold at1; omega)
   replace B11 := hzq.blkS B11 (by unfold at1; omega)
   replace RQ := Own.at1g RQ hzq (.inl g_RQ)
   replace u_RQ := Nat.le_trans u_RQ hzq.size
   replace RP := Own.at1g RP hzq (.inl g_RP)
   replace u_RP := Nat.le_trans u_RP hzq.size
   replace s := s.draw hcq hzq
   clear hzq hcq
   go_wp2_with fail
   refine HK.out _ _ ?_
   clear HK K
   refine blkStep (fun K HK => ?_)
   simp only [PK]
   go_wp2_with fail
   refine HK.out _ _ ?_
   clear HK K
   have hgl8 : g < w4.heap.size := s.c.lt
   have RI : (Own.keep Rep.int).own (rng w4.heap.size (w4.alloc (.cells #[.int .i64 8, .int .i64 8, .int .i64 4] 3)).heap.size) (w4.alloc (.cells #[.int .i64 8, .int .i64 8, .int .i64 4] 3)) (.slice (some ⟨w4.heap.size, 0, none⟩) 3 3) [8, 8, 4] := Own.toKeep (Own.ofFr (hf := intFlen) (OwnF.lit intFlen w4.heap.size 3 w4 [8, 8, 4] (Nat.le_refl _) (by simp [maxLen])) (Nat.le_refl _))
   have hx8 : Ext w4 (w4.alloc (.cells #[.int .i64 8, .int .i64 8, .int .i64 4] 3)) := (Ext.refl _).alloc _
   have g_RI : g < w4.heap.size := hgl8
   have u_RI := Nat.le_refl (w4.alloc (.cells #[.int .i64 8, .int .i64 8, .int .i64 4] 3)).heap.size
   refine oneStep (fun K HK => ?_)
   simp only [PK]
   go_wp2_with fail
   refine HK.out _ _ hx8 ?_
   clear HK K
   replace B4 := Ext.block hx8 B4
   replace B11 := Ext.block hx8 B11
   replace RQ := Own.ext RQ hx8
   replace u_RQ := Nat.le_trans u_RQ hx8.size
   replace RP := Own.ext RP hx8
   replace u_RP := Nat.le_trans u_RP hx8.size
   replace s := s.ext hx8
   generalize w4.alloc (.cells #[.int .i64 8, .int .i64 8, .int .i64 4] 3) = w8 at B4 B11 RQ RP RI u_RQ u_RP u_RI s ⊢
   clear hx8
   refine badStep (by kernel_rfl) (fun K HK => ?_)
   simp only [PK]
   go_wp2_with fail
   refine (s_l1IntS g [8, 8, 4] _ _ _ _ s.c (Own.stR RI (.inl g_RI)) (by decide) (by decide)).mono ?_
   rintro e w5 ⟨cq9, rfl, hcq9, hcq, hzq⟩
   replace B4 := hzq.blkS B4 (by unfold at1; omega)
   replace B11 := hzq.blkS B11 (by unfold at1; omega)
   replace RQ := Own.at1g RQ hzq (.inl g_RQ)
   replace u_RQ := Nat.le_trans u_RQ hzq.size
   replace RP := Own.at1g RP hzq (.inl g_RP)
   replace u_RP := Nat.le_trans u_RP hzq.size
   replace RI := Own.at1g RI hzq (.inl g_RI)
   replace u_RI := Nat.le_trans u_RI hzq.size
   replace s := s.draw hcq hzq
   clear hcq9
   clear hzq hcq
   go_wp2_with fail
   refine HK.out _ _ ?_
   clear HK K
   refine blkStep (fun K HK => ?_)
   simp only [PK]
   go_wp2_with fail
   refine HK.out _ _ ?_
   clear HK K
   have hxe := hx0.trans (hn1.ofCur s.x hgl)
   obtain ⟨wpa, hwa, hba, hca⟩ := set1 B4 (.slice op_ p.parts.length cp_)
   have HWa := Lib.hid hwa
   clear hwa
   have ff0 := fr_of B4 0
   have cb_B4 := blk1 B4
   have cb_B11 := blk1 B11
   refine badStep (by kernel_rfl) (fun K HK => ?_)
   simp only [PK]
   go_wp2_with fail
   refine HK.out _ _ ?_
   clear HK K
   clear cb_B4 cb_B11
   rw [← HWa.out]
   clear HWa ff0
   replace RQ := Own.at1g RQ hca (by omega)
   replace u_RQ := Nat.le_trans u_RQ hca.size
   replace RP := Own.at1g RP hca (by omega)
   replace u_RP := Nat.le_trans u_RP hca.size
   replace RI := Own.at1g RI hca (by omega)
   replace u_RI := Nat.le_trans u_RI hca.size
   replace B11 := hca.blkS B11 (by unfold at1; omega)
   replace B4 := hba
   clear hba
   replace hxe := hxe.chg hca (fun i hi => by have h1 : i = w.heap.size := hi; omega)
   try clear hca
   refine blkStep (fun K HK => ?_)
   simp only [PK]
   go_wp2_with fail
   refine HK.out _ _ ?_
   clear HK K
   refine doneStep (by kernel_rfl) ?_
   have cr_B4 := blk1 B4
   have cr_B11 := blk1 B11
   have hwb := (hx0.trans hn1).size
   go_wp2_with fail
   refine bodyPost_ret (v := .tuple #[.slice oq l.length cq, .int .i64 (1 + i5), .agg #[.slice op_ p.parts.length cp_], .int .i64 rt, .int .i64 (40 + na), .int .i64 cq9, .int .i64 45]) (by simp [results, Try.results49, go_sem, cr_B4]) rfl ?_
   exact ⟨_, _, l, p, 1 + i5, rt, 40 + na, cq9, rfl, hl50, hp4, hx5, by omega, by omega, Own.rd _ RQ, Own.rd _ RP, hxe⟩
  ·
   have hgl8 : g < wdd.heap.size := s.c.lt
   have RI : (Own.keep Rep.int).own (rng wdd.heap.size (wdd.alloc (.cells #[.int .i64 8, .int .i64 8, .int .i64 4] 3)).heap.size) (wdd.alloc (.cells #[.int .i64 8, .int .i64 8, .int .i64 4] 3)) (.slice (some ⟨wdd.heap.size, 0, none⟩) 3 3) [8, 8, 4] := Own.toKeep (Own.ofFr (hf := intFlen) (OwnF.lit intFlen wdd.heap.size 3 wdd [8, 8, 4] (Nat.le_refl _) (by simp [maxLen])) (Nat.le_refl _))
   have hx8 : Ext wdd (wdd.alloc (.cells #[.int .i64 8, .int .i64 8, .int .i64 4] 3)) := (Ext.refl _).alloc _
   have g_RI : g < wdd.heap.size := hgl8
   have u_RI := Nat.le_refl (wdd.alloc (.cells #[.int .i64 8, .int .i64 8, .int .i64 4] 3)).heap.size
   refine oneStep (fun K HK => ?_)
   simp only [PK]
   go_wp2_with fail
   refine HK.out _ _ hx8 ?_
   clear HK K
   replace B4 := Ext.block hx8 B4
   replace B11 := Ext.block hx8 B11
   replace RQ := Own.ext RQ hx8
   replace u_RQ := Nat.le_trans u_RQ hx8.size
   replace RP := Own.ext RP hx8
   replace u_RP := Nat.le_trans u_RP hx8.size
   replace s := s.ext hx8
   generalize wdd.alloc (.cells #[.int .i64 8, .int .i64 8, .int .i64 4] 3) = w8 at B4 B11 RQ RP RI u_RQ u_RP u_RI s ⊢
   clear hx8
   refine badStep (by kernel_rfl) (fun K HK => ?_)
   simp only [PK]
   go_wp2_with fail
   refine (s_l1Below g (30) _ _ _ s.c).mono ?_
   rintro e w4 ⟨na, rfl, hna0, hna1, hcq, hzq⟩
   replace B4 := hzq.blkS B4 (by unfold at1; omega)
   replace B11 := hzq.blkS B11 (by unfold at1; omega)
   replace RQ := Own.at1g RQ hzq (.inl g_RQ)
   replace u_RQ := Nat.le_trans u_RQ hzq.size
   replace RP := Own.at1g RP hzq (.inl g_RP)
   replace u_RP := Nat.le_trans u_RP hzq.size
   replace RI := Own.at1g RI hzq (.inl g_RI)
   replace u_RI := Nat.le_trans u_RI hzq.size
   replace s := s.draw hcq hzq
   clear hzq hcq
   go_wp2_with fail
   refine HK.out _ _ ?_
   clear HK K
   refine blkStep (fun K HK => ?_)
   simp only [PK]
   go_wp2_with fail
   refine HK.out _ _ ?_
   clear HK K
   refine badStep (by kernel_rfl) (fun K HK => ?_)
   simp only [PK]
   go_wp2_with fail
   refine (s_l1IntS g [8, 8, 4] _ _ _ _ s.c (Own.stR RI (.inl g_RI)) (by decide) (by decide)).mono ?_
   rintro e w5 ⟨cq9, rfl, hcq9, hcq, hzq⟩
   replace B4 := hzq.blkS B4 (by unfold at1; omega)
   replace B11 := hzq.blkS B11 (by unfold at1; omega)
   replace RQ := Own.at1g RQ hzq (.inl g_RQ)
   replace u_RQ := Nat.le_trans u_RQ hzq.size
   replace RP := Own.at1g RP hzq (.inl g_RP)
   replace u_RP := Nat.le_trans u_RP hzq.size
   replace RI := Own.at1g RI hzq (.inl g_RI)
   replace u_RI := Nat.le_trans u_RI hzq.size
   replace s := s.draw hcq hzq
   clear hcq9
   clear hzq hcq
   go_wp2_with fail
   refine HK.out _ _ ?_
   clear HK K
   refine blkStep (fun K HK => ?_)
   simp only [PK]
   go_wp2_with fail
   refine HK.out _ _ ?_
   clear HK K
   have hxe := hx0.trans (hn1.ofCur s.x hgl)
   obtain ⟨wpa, hwa, hba, hca⟩ := set1 B4 (.slice op_ p.parts.length cp_)
   have HWa := Lib.hid hwa
   clear hwa
   have ff0 := fr_of B4 0
   have cb_B4 := blk1 B4
   have cb_B11 := blk1 B11
   refine badStep (by kernel_rfl) (fun K HK => ?_)
   simp only [PK]
   go_wp2_with fail
   refine HK.out _ _ ?_
   clear HK K
   clear cb_B4 cb_B11
   rw [← HWa.out]
   clear HWa ff0
   replace RQ := Own.at1g RQ hca (by omega)
   replace u_RQ := Nat.le_trans u_RQ hca.size
   replace RP := Own.at1g RP hca (by omega)
   replace u_RP := Nat.le_trans u_RP hca.size
   replace RI := Own.at1g RI hca (by omega)
   replace u_RI := Nat.le_trans u_RI hca.size
   replace B11 := hca.blkS B11 (by unfold at1; omega)
   replace B4 := hba
   clear hba
   replace hxe := hxe.chg hca (fun i hi => by have h1 : i = w.heap.size := hi; omega)
   try clear hca
   refine blkStep (fun K HK => ?_)
   simp only [PK]
   go_wp2_with fail
   refine HK.out _ _ ?_
   clear HK K
   refine doneStep (by kernel_rfl) ?_
   have cr_B4 := blk1 B4
   have cr_B11 := blk1 B11
   have hwb := (hx0.trans hn1).size
   go_wp2_with fail
   refine bodyPost_ret (v := .tuple #[.slice oq l.length cq, .int .i64 (1 + i5), .agg #[.slice op_ p.parts.length cp_], .int .i64 rt, .int .i64 (40 + na), .int .i64 cq9, .int .i64 45]) (by simp [results, Try.results49, go_sem, cr_B4]) rfl ?_
   exact ⟨_, _, l, p, 1 + i5, rt, 40 + na, cq9, rfl, hl50, hp4, hx5, by omega, by omega, Own.rd _ RQ, Own.rd _ RP, hxe⟩
 ·
  refine badStep (by kernel_rfl) (fun K HK => ?_)
  simp only [PK]
  go_wp2_with fail
  refine (s_l1Below g (30) _ _ _ s.c).mono ?_
  rintro e w4 ⟨na, rfl, hna0, hna1, hcq, hzq⟩
  replace B4 := hzq.blkS B4 (by unfold at1; omega)
  replace B11 := hzq.blkS B11 (by unfold at1; omega)
  replace RQ := Own.at1g RQ hzq (.inl g_RQ)
  replace u_RQ := Nat.le_trans u_RQ hzq.size
  replace RP := Own.at1g RP hzq (.inl g_RP)
  replace u_RP := Nat.le_trans u_RP hzq.size
  replace s := s.draw hcq hzq
  clear hzq hcq
  go_wp2_with fail
  refine HK.out _ _ ?_
  clear HK K
  refine blkStep (fun K HK => ?_)
  simp only [PK]
  go_wp2_with fail
  refine HK.out _ _ ?_
  clear HK K
  refine twoStep ?_ ?_
  ·
   have cB := blk1 B11
   refine oneStep (fun K HK => ?_)
   simp only [PK]
   go_wp2_with fail
   refine HK.out _ _ (Ext.refl _) ?_
   clear HK K cB
   have hgl8 : g < w4.heap.size := s.c.lt
   have RI : (Own.keep Rep.int).own (rng w4.heap.size (w4.alloc (.cells #[.int .i64 8, .int .i64 8, .int .i64 4] 3)).heap.size) (w4.alloc (.cells #[.int .i64 8, .int .i64 8, .int .i64 4] 3)) (.slice (some ⟨w4.heap.size, 0, none⟩) 3 3) [8, 8, 4] := Own.toKeep (Own.ofFr (hf := intFlen) (OwnF.lit intFlen w4.heap.size 3 w4 [8, 8, 4] (Nat.le_refl _) (by simp [maxLen])) (Nat.le_refl _))
   have hx8 : Ext w4 (w4.alloc (.cells #[.int .i64 8, .int .i64 8, .int .i64 4] 3)) := (Ext.refl _).alloc _
   have g_RI : g < w4.heap.size := hgl8
   have u_RI := Nat.le_refl (w4.alloc (.cells #[.int .i64 8, .int .i64 8, .int .i64 4] 3)).heap.size
   refine oneStep (fun K HK => ?_)
   simp only [PK]
   go_wp2_with fail
   refine HK.out _ _ hx8 ?_
   clear HK K
   replace B4 := Ext.block hx8 B4
   replace B11 := Ext.block hx8 B11
   replace RQ := Own.ext RQ hx8
   replace u_RQ := Nat.le_trans u_RQ hx8.size
   replace RP := Own.ext RP hx8
   replace u_RP := Nat.le_trans u_RP hx8.size
   replace s := s.ext hx8
   generalize w4.alloc (.cells #[.int .i64 8, .int .i64 8, .int .i64 4] 3) = w8 at B4 B11 RQ RP RI u_RQ u_RP u_RI s ⊢
   clear hx8
   refine badStep (by kernel_rfl) (fun K HK => ?_)
   simp only [PK]
   go_wp2_with fail
   refine (s_l1IntS g [8, 8, 4] _ _ _ _ s.c (Own.stR RI (.inl g_RI)) (by decide) (by decide)).mono ?_
   rintro e w5 ⟨cq9, rfl, hcq9, hcq, hzq⟩
   replace B4 := hzq.blkS B4 (by unfold at1; omega)
   replace B11 := hzq.blkS B11 (by unfold at1; omega)
   replace RQ := Own.at1g RQ hzq (.inl g_RQ)
   replace u_RQ := Nat.le_trans u_RQ hzq.size
   replace RP := Own.at1g RP hzq (.inl g_RP)
   replace u_RP := Nat.le_trans u_RP hzq.size
   replace RI := Own.at1g RI hzq (.inl g_RI)
   replace u_RI := Nat.le_trans u_RI hzq.size
   replace s := s.draw hcq hzq
   clear hcq9
   clear hzq hcq
   go_wp2_with fail
   refine HK.out _ _ ?_
   clear HK K
   refine blkStep (fun K HK => ?_)
   simp only [PK]
   go_wp2_with fail
   refine HK.out _ _ ?_
   clear HK K
   have hxe := hx0.trans (hn1.ofCur s.x hgl)
   obtain ⟨wpa, hwa, hba, hca⟩ := set1 B4 (.slice op_ p.parts.length cp_)
   have HWa := Lib.hid hwa
   clear hwa
   have ff0 := fr_of B4 0
   have cb_B4 := blk1 B4
   have cb_B11 := blk1 B11
   refine badStep (by kernel_rfl) (fun K HK => ?_)
   simp only [PK]
   go_wp2_with fail
   refine HK.out _ _ ?_
   clear HK K
   clear cb_B4 cb_B11
   rw [← HWa.out]
   clear HWa ff0
   replace RQ := Own.at1g RQ hca (by omega)
   replace u_RQ := Nat.le_trans u_RQ hca.size
   replace RP := Own.at1g RP hca (by omega)
   replace u_RP := Nat.le_trans u_RP hca.size
   replace RI := Own.at1g RI hca (by omega)
   replace u_RI := Nat.le_trans u_RI hca.size
   replace B11 := hca.blkS B11 (by unfold at1; omega)
   replace B4 := hba
   clear hba
   replace hxe := hxe.chg hca (fun i hi => by have h1 : i = w.heap.size := hi; omega)
   try clear hca
   refine blkStep (fun K HK => ?_)
   simp only [PK]
   go_wp2_with fail
   refine HK.out _ _ ?_
   clear HK K
   refine doneStep (by kernel_rfl) ?_
   have cr_B4 := blk1 B4
   have cr_B11 := blk1 B11
   have hwb := (hx0.trans hn1).size
   go_wp2_with fail
   refine bodyPost_ret (v := .tuple #[.slice oq l.length cq, .int .i64 (1 + i5), .agg #[.slice op_ p.parts.length cp_], .int .i64 rt, .int .i64 (40 + na), .int .i64 cq9, .int .i64 45]) (by simp [results, Try.results49, go_sem, cr_B4]) rfl ?_
   exact ⟨_, _, l, p, 1 + i5, rt, 40 + na, cq9, rfl, hl50, hp4, hx5, by omega, by omega, Own.rd _ RQ, Own.rd _ RP, hxe⟩
  ·
   have hgl8 : g < w4.heap.size := s.c.lt
   have RI : (Own.keep Rep.int).own (rng w4.heap.size (w4.alloc (.cells #[.int .i64 8, .int .i64 8, .int .i64 4] 3)).heap.size) (w4.alloc (.cells #[.int .i64 8, .int .i64 8, .int .i64 4] 3)) (.slice (some ⟨w4.heap.size, 0, none⟩) 3 3) [8, 8, 4] := Own.toKeep (Own.ofFr (hf := intFlen) (OwnF.lit intFlen w4.heap.size 3 w4 [8, 8, 4] (Nat.le_refl _) (by simp [maxLen])) (Nat.le_refl _))
   have hx8 : Ext w4 (w4.alloc (.cells #[.int .i64 8, .int .i64 8, .int .i64 4] 3)) := (Ext.refl _).alloc _
   have g_RI : g < w4.heap.size := hgl8
   have u_RI := Nat.le_refl (w4.alloc (.cells #[.int .i64 8, .int .i64 8, .int .i64 4] 3)).heap.size
   refine oneStep (fun K HK => ?_)
   simp only [PK]
   go_wp2_with fail
   refine HK.out _ _ hx8 ?_
   clear HK K
   replace B4 := Ext.block hx8 B4
   replace B11 := Ext.block hx8 B11
   replace RQ := Own.ext RQ hx8
   replace u_RQ := Nat.le_trans u_RQ hx8.size
   replace RP := Own.ext RP hx8
   replace u_RP := Nat.le_trans u_RP hx8.size
   replace s := s.ext hx8
   generalize w4.alloc (.cells #[.int .i64 8, .int .i64 8, .int .i64 4] 3) = w8 at B4 B11 RQ RP RI u_RQ u_RP u_RI s ⊢
   clear hx8
   refine twoStep ?_ ?_
   ·
    have cB := blk1 B11
    refine oneStep (fun K HK => ?_)
    simp only [PK]
    go_wp2_with fail
    refine HK.out _ _ (Ext.refl _) ?_
    clear HK K cB
    refine badStep (by kernel_rfl) (fun K HK => ?_)
    simp only [PK]
    go_wp2_with fail
    refine (s_l1IntS g [8, 8, 4] _ _ _ _ s.c (Own.stR RI (.inl g_RI)) (by decide) (by decide)).mono ?_
    rintro e w5 ⟨cq9, rfl, hcq9, hcq, hzq⟩
    replace B4 := hzq.blkS B4 (by unfold at1; omega)
    replace B11 := hzq.blkS B11 (by unfold at1; omega)
    replace RQ := Own.at1g RQ hzq (.inl g_RQ)
    replace u_RQ := Nat.le_trans u_RQ hzq.size
    replace RP := Own.at1g RP hzq (.inl g_RP)
    replace u_RP := Nat.le_trans u_RP hzq.size
    replace RI := Own.at1g RI hzq (.inl g_RI)
    replace u_RI := Nat.le_trans u_RI hzq.size
    replace s := s.draw hcq hzq
    clear hcq9
    clear hzq hcq
    go_wp2_with fail
    refine HK.out _ _ ?_
    clear HK K
    refine blkStep (fun K HK => ?_)
    simp only [PK]
    go_wp2_with fail
    refine HK.out _ _ ?_
    clear HK K
    have hxe := hx0.trans (hn1.ofCur s.x hgl)
    obtain ⟨wpa, hwa, hba, hca⟩ := set1 B4 (.slice op_ p.parts.length cp_)
    have HWa := Lib.hid hwa
    clear hwa
    have ff0 := fr_of B4 0
    have cb_B4 := blk1 B4
    have cb_B11 := blk1 B11
    refine badStep (by kernel_rfl) (fun K HK => ?_)
    simp only [PK]
    go_wp2_with fail
    refine HK.out _ _ ?_
    clear HK K
    clear cb_B4 cb_B11
    rw [← HWa.out]
    clear HWa ff0
    replace RQ := Own.at1g RQ hca (by omega)
    replace u_RQ := Nat.le_trans u_RQ hca.size
    replace RP := Own.at1g RP hca (by omega)
    replace u_RP := Nat.le_trans u_RP hca.size
    replace RI := Own.at1g RI hca (by omega)
    replace u_RI := Nat.le_trans u_RI hca.size
    replace B11 := hca.blkS B11 (by unfold at1; omega)
    replace B4 := hba
    clear hba
    replace hxe := hxe.chg hca (fun i hi => by have h1 : i = w.heap.size := hi; omega)
    try clear hca
    refine blkStep (fun K HK => ?_)
    simp only [PK]
    go_wp2_with fail
    refine HK.out _ _ ?_
    clear HK K
    refine doneStep (by kernel_rfl) ?_
    have cr_B4 := blk1 B4
    have cr_B11 := blk1 B11
    have hwb := (hx0.trans hn1).size
    go_wp2_with fail
    refine bodyPost_ret (v := .tuple #[.slice oq l.length cq, .int .i64 (1 + i5), .agg #[.slice op_ p.parts.length cp_], .int .i64 rt, .int .i64 (40 + na), .int .i64 cq9, .int .i64 45]) (by simp [results, Try.results49, go_sem, cr_B4]) rfl ?_
    exact ⟨_, _, l, p, 1 + i5, rt, 40 + na, cq9, rfl, hl50, hp4, hx5, by omega, by omega, Own.rd _ RQ, Own.rd _ RP, hxe⟩
   ·
    refine badStep (by kernel_rfl) (fun K HK => ?_)
    simp only [PK]
    go_wp2_with fail
    refine (s_l1IntS g [8, 8, 4] _ _ _ _ s.c (Own.stR RI (.inl g_RI)) (by decide) (by decide)).mono ?_
    rintro e w5 ⟨cq9, rfl, hcq9, hcq, hzq⟩
    replace B4 := hzq.blkS B4 (by unfold at1; omega)
    replace B11 := hzq.blkS B11 (by unfold at1; omega)
    replace RQ := Own.at1g RQ hzq (.inl g_RQ)
    replace u_RQ := Nat.le_trans u_RQ hzq.size
    replace RP := Own.at1g RP hzq (.inl g_RP)
    replace u_RP := Nat.le_trans u_RP hzq.size
    replace RI := Own.at1g RI hzq (.inl g_RI)
    replace u_RI := Nat.le_trans u_RI hzq.size
    replace s := s.draw hcq hzq
    clear hcq9
    clear hzq hcq
    go_wp2_with fail
    refine HK.out _ _ ?_
    clear HK K
    refine blkStep (fun K HK => ?_)
    simp only [PK]
    go_wp2_with fail
    refine HK.out _ _ ?_
    clear HK K
    have cB := blk1 B11
    refine oneStep (fun K HK => ?_)
    simp only [PK]
    go_wp2_with fail
    refine HK.out _ _ (Ext.refl _) ?_
    clear HK K cB
    have hxe := hx0.trans (hn1.ofCur s.x hgl)
    obtain ⟨wpa, hwa, hba, hca⟩ := set1 B4 (.slice op_ p.parts.length cp_)
    have HWa := Lib.hid hwa
    clear hwa
    have ff0 := fr_of B4 0
    have cb_B4 := blk1 B4
    have cb_B11 := blk1 B11
    refine badStep (by kernel_rfl) (fun K HK => ?_)
    simp only [PK]
    go_wp2_with fail
    refine HK.out _ _ ?_
    clear HK K
    clear cb_B4 cb_B11
    rw [← HWa.out]
    clear HWa ff0
    replace RQ := Own.at1g RQ hca (by omega)
    replace u_RQ := Nat.le_trans u_RQ hca.size
    replace RP := Own.at1g RP hca (by omega)
    replace u_RP := Nat.le_trans u_RP hca.size
    replace RI := Own.at1g RI hca (by omega)
    replace u_RI := Nat.le_trans u_RI hca.size
    replace B11 := hca.blkS B11 (by unfold at1; omega)
    replace B4 := hba
    clear hba
    replace hxe := hxe.chg hca (fun i hi => by have h1 : i = w.heap.size := hi; omega)
    try clear hca
    refine blkStep (fun K HK => ?_)
    simp only [PK]
    go_wp2_with fail
    refine HK.out _ _ ?_
    clear HK K
    refine doneStep (by kernel_rfl) ?_
    have cr_B4 := blk1 B4
    have cr_B11 := blk1 B11
    have hwb := (hx0.trans hn1).size
    go_wp2_with fail
    refine bodyPost_ret (v := .tuple #[.slice oq l.length cq, .int .i64 (1 + i5), .agg #[.slice op_ p.parts.length cp_], .int .i64 rt, .int .i64 (40 + na), .int .i64 cq9, .int .i64 45]) (by simp [results, Try.results49, go_sem, cr_B4]) rfl ?_
    exact ⟨_, _, l, p, 1 + i5, rt, 40 + na, cq9, rfl, hl50, hp4, hx5, by omega, by omega, Own.rd _ RQ, Own.rd _ RP, hxe⟩
 ·
  have hgl8 : g < wdd.heap.size := s.c.lt
  have RI : (Own.keep Rep.int).own (rng wdd.heap.size (wdd.alloc (.cells #[.int .i64 8, .int .i64 8, .int .i64 4] 3)).heap.size) (wdd.alloc (.cells #[.int .i64 8, .int .i64 8, .int .i64 4] 3)) (.slice (some ⟨wdd.heap.size, 0, none⟩) 3 3) [8, 8, 4] := Own.toKeep (Own.ofFr (hf := intFlen) (OwnF.lit intFlen wdd.heap.size 3 wdd [8, 8, 4] (Nat.le_refl _) (by simp [maxLen])) (Nat.le_refl _))
  have hx8 : Ext wdd (wdd.alloc (.cells #[.int .i64 8, .int .i64 8, .int .i64 4] 3)) := (Ext.refl _).alloc _
  have g_RI : g < wdd.heap.size := hgl8
  have u_RI := Nat.le_refl (wdd.alloc (.cells #[.int .i64 8, .int .i64 8, .int .i64 4] 3)).heap.size
  refine oneStep (fun K HK => ?_)
  simp only [PK]
  go_wp2_with fail
  refine HK.out _ _ hx8 ?_
  clear HK K
  replace B4 := Ext.block hx8 B4
  replace B11 := Ext.block hx8 B11
  replace RQ := Own.ext RQ hx8
  replace u_RQ := Nat.le_trans u_RQ hx8.size
  replace RP := Own.ext RP hx8
  replace u_RP := Nat.le_trans u_RP hx8.size
  replace s := s.ext hx8
  generalize wdd.alloc (.cells #[.int .i64 8, .int .i64 8, .int .i64 4] 3) = w8 at B4 B11 RQ RP RI u_RQ u_RP u_RI s ⊢
  clear hx8
  refine twoStep ?_ ?_
  ·
   have cB := blk1 B11
   refine oneStep (fun K HK => ?_)
   simp only [PK]
   go_wp2_with fail
   refine HK.out _ _ (Ext.refl _) ?_
   clear HK K cB
   refine badStep (by kernel_rfl) (fun K HK => ?_)
   simp only [PK]
   go_wp2_with fail
   refine (s_l1Below g (30) _ _ _ s.c).mono ?_
   rintro e w4 ⟨na, rfl, hna0, hna1, hcq, hzq⟩
   replace B4 := hzq.blkS B4 (by unfold at1; omega)
   replace B11 := hzq.blkS B11 (by unfold at1; omega)
   replace RQ := Own.at1g RQ hzq (.inl g_RQ)
   replace u_RQ := Nat.le_trans u_RQ hzq.size
   replace RP := Own.at1g RP hzq (.inl g_RP)
   replace u_RP := Nat.le_trans u_RP hzq.size
   replace RI := Own.at1g RI hzq (.inl g_RI)
   replace u_RI := Nat.le_trans u_RI hzq.size
   replace s := s.draw hcq hzq
   clear hzq hcq
   go_wp2_with fail
   refine HK.out _ _ ?_
   clear HK K
   refine blkStep (fun K HK => ?_)
   simp only [PK]
   go_wp2_with fail
   refine HK.out _ _ ?_
   clear HK K
   refine badStep (by kernel_rfl) (fun K HK => ?_)
   simp only [PK]
   go_wp2_with fail
   refine (s_l1IntS g [8, 8, 4] _ _ _ _ s.c (Own.stR RI (.inl g_RI)) (by decide) (by decide)).mono ?_
   rintro e w5 ⟨cq9, rfl, hcq9, hcq, hzq⟩
   replace B4 := hzq.blkS B4 (by unfold at1; omega)
   replace B11 := hzq.blkS B11 (by unfold at1; omega)
   replace RQ := Own.at1g RQ hzq (.inl g_RQ)
   replace u_RQ := Nat.le_trans u_RQ hzq.size
   replace RP := Own.at1g RP hzq (.inl g_RP)
   replace u_RP := Nat.le_trans u_RP hzq.size
   replace RI := Own.at1g RI hzq (.inl g_RI)
   replace u_RI := Nat.le_trans u_RI hzq.size
   replace s := s.draw hcq hzq
   clear hcq9
   clear hzq hcq
   go_wp2_with fail
   refine HK.out _ _ ?_
   clear HK K
   refine blkStep (fun K HK => ?_)
   simp only [PK]
   go_wp2_with fail
   refine HK.out _ _ ?_
   clear HK K
   have hxe := hx0.trans (hn1.ofCur s.x hgl)
   obtain ⟨wpa, hwa, hba, hca⟩ := set1 B4 (.slice op_ p.parts.length cp_)
   have HWa := Lib.hid hwa
   clear hwa
   have ff0 := fr_of B4 0
   have cb_B4 := blk1 B4
   have cb_B11 := blk1 B11
   refine badStep (by kernel_rfl) (fun K HK => ?_)
   simp only [PK]
   go_wp2_with fail
   refine HK.out _ _ ?_
   clear HK K
   clear cb_B4 cb_B11
   rw [← HWa.out]
   clear HWa ff0
   replace RQ := Own.at1g RQ hca (by omega)
   replace u_RQ := Nat.le_trans u_RQ hca.size
   replace RP := Own.at1g RP hca (by omega)
   replace u_RP := Nat.le_trans u_RP hca.size
   replace RI := Own.at1g RI hca (by omega)
   replace u_RI := Nat.le_trans u_RI hca.size
   replace B11 := hca.blkS B11 (by unfold at1; omega)
   replace B4 := hba
   clear hba
   replace hxe := hxe.chg hca (fun i hi => by have h1 : i = w.heap.size := hi; omega)
   try clear hca
   refine blkStep (fun K HK => ?_)
   simp only [PK]
   go_wp2_with fail
   refine HK.out _ _ ?_
   clear HK K
   refine doneStep (by kernel_rfl) ?_
   have cr_B4 := blk1 B4
   have cr_B11 := blk1 B11
   have hwb := (hx0.trans hn1).size
   go_wp2_with fail
   refine bodyPost_ret (v := .tuple #[.slice oq l.length cq, .int .i64 (1 + i5), .agg #[.slice op_ p.parts.length cp_], .int .i64 rt, .int .i64 (40 + na), .int .i64 cq9, .int .i64 45]) (by simp [results, Try.results49, go_sem, cr_B4]) rfl ?_
   exact ⟨_, _, l, p, 1 + i5, rt, 40 + na, cq9, rfl, hl50, hp4, hx5, by omega, by omega, Own.rd _ RQ, Own.rd _ RP, hxe⟩
  ·
   refine badStep (by kernel_rfl) (fun K HK => ?_)
   simp only [PK]
   go_wp2_with fail
   refine (s_l1Below g (30) _ _ _ s.c).mono ?_
   rintro e w4 ⟨na, rfl, hna0, hna1, hcq, hzq⟩
   replace B4 := hzq.blkS B4 (by unfold at1; omega)
   replace B11 := hzq.blkS B11 (by unfold at1; omega)
   replace RQ := Own.at1g RQ hzq (.inl g_RQ)
   replace u_RQ := Nat.le_trans u_RQ hzq.size
   replace RP := Own.at1g RP hzq (.inl g_RP)
   replace u_RP := Nat.le_trans u_RP hzq.size
   replace RI := Own.at1g RI hzq (.inl g_RI)
   replace u_RI := Nat.le_trans u_RI hzq.size
   replace s := s.draw hcq hzq
   clear hzq hcq
   go_wp2_with fail
   refine HK.out _ _ ?_
   clear HK K
   refine blkStep (fun K HK => ?_)
   simp only [PK]
   go_wp2_with fail
   refine HK.out _ _ ?_
   clear HK K
   refine twoStep ?_ ?_
   ·
    have cB := blk1 B11
    refine oneStep (fun K HK => ?_)
    simp only [PK]
    go_wp2_with fail
    refine HK.out _ _ (Ext.refl _) ?_
    clear HK K cB
    refine badStep (by kernel_rfl) (fun K HK => ?_)
    simp only [PK]
    go_wp2_with fail
    refine (s_l1IntS g [8, 8, 4] _ _ _ _ s.c (Own.stR RI (.inl g_RI)) (by decide) (by decide)).mono ?_
    rintro e w5 ⟨cq9, rfl, hcq9, hcq, hzq⟩
    replace B4 := hzq.blkS B4 (by unfold at1; omega)
    replace B11 := hzq.blkS B11 (by unfold at1; omega)
    replace RQ := Own.at1g RQ hzq (.inl g_RQ)
    replace u_RQ := Nat.le_trans u_RQ hzq.size
    replace RP := Own.at1g RP hzq (.inl g_RP)
    replace u_RP := Nat.le_trans u_RP hzq.size
    replace RI := Own.at1g RI hzq (.inl g_RI)
    replace u_RI := Nat.le_trans u_RI hzq.size
    replace s := s.draw hcq hzq
    clear hcq9
    clear hzq hcq
    go_wp2_with fail
    refine HK.out _ _ ?_
    clear HK K
    refine blkStep (fun K HK => ?_)
    simp only [PK]
    go_wp2_with fail
    refine HK.out _ _ ?_
    clear HK K
    have hxe := hx0.trans (hn1.ofCur s.x hgl)
    obtain ⟨wpa, hwa, hba, hca⟩ := set1 B4 (.slice op_ p.parts.length cp_)
    have HWa := Lib.hid hwa
    clear hwa
    have ff0 := fr_of B4 0
    have cb_B4 := blk1 B4
    have cb_B11 := blk1 B11
    refine badStep (by kernel_rfl) (fun K HK => ?_)
    simp only [PK]
    go_wp2_with fail
    refine HK.out _ _ ?_
    clear HK K
    clear cb_B4 cb_B11
    rw [← HWa.out]
    clear HWa ff0
    replace RQ := Own.at1g RQ hca (by omega)
    replace u_RQ := Nat.le_trans u_RQ hca.size
    replace RP := Own.at1g RP hca (by omega)
    replace u_RP := Nat.le_trans u_RP hca.size
    replace RI := Own.at1g RI hca (by omega)
    replace u_RI := Nat.le_trans u_RI hca.size
    replace B11 := hca.blkS B11 (by unfold at1; omega)
    replace B4 := hba
    clear hba
    replace hxe := hxe.chg hca (fun i hi => by have h1 : i = w.heap.size := hi; omega)
    try clear hca
    refine blkStep (fun K HK => ?_)
    simp only [PK]
    go_wp2_with fail
    refine HK.out _ _ ?_
    clear HK K
    refine doneStep (by kernel_rfl) ?_
    have cr_B4 := blk1 B4
    have cr_B11 := blk1 B11
    have hwb := (hx0.trans hn1).size
    go_wp2_with fail
    refine bodyPost_ret (v := .tuple #[.slice oq l.length cq, .int .i64 (1 + i5), .agg #[.slice op_ p.parts.length cp_], .int .i64 rt, .int .i64 (40 + na), .int .i64 cq9, .int .i64 45]) (by simp [results, Try.results49, go_sem, cr_B4]) rfl ?_
    exact ⟨_, _, l, p, 1 + i5, rt, 40 + na, cq9, rfl, hl50, hp4, hx5, by omega, by omega, Own.rd _ RQ, Own.rd _ RP, hxe⟩
   ·
    refine badStep (by kernel_rfl) (fun K HK => ?_)
    simp only [PK]
    go_wp2_with fail
    refine (s_l1IntS g [8, 8, 4] _ _ _ _ s.c (Own.stR RI (.inl g_RI)) (by decide) (by decide)).mono ?_
    rintro e w5 ⟨cq9, rfl, hcq9, hcq, hzq⟩
    replace B4 := hzq.blkS B4 (by unfold at1; omega)
    replace B11 := hzq.blkS B11 (by unfold at1; omega)
    replace RQ := Own.at1g RQ hzq (.inl g_RQ)
    replace u_RQ := Nat.le_trans u_RQ hzq.size
    replace RP := Own.at1g RP hzq (.inl g_RP)
    replace u_RP := Nat.le_trans u_RP hzq.size
    replace RI := Own.at1g RI hzq (.inl g_RI)
    replace u_RI := Nat.le_trans u_RI hzq.size
    replace s := s.draw hcq hzq
    clear hcq9
    clear hzq hcq
    go_wp2_with fail
    refine HK.out _ _ ?_
    clear HK K
    refine blkStep (fun K HK => ?_)
    simp only [PK]
    go_wp2_with fail
    refine HK.out _ _ ?_
    clear HK K
    have cB := blk1 B11
    refine oneStep (fun K HK => ?_)
    simp only [PK]
    go_wp2_with fail
    refine HK.out _ _ (Ext.refl _) ?_
    clear HK K cB
    have hxe := hx0.trans (hn1.ofCur s.x hgl)
    obtain ⟨wpa, hwa, hba, hca⟩ := set1 B4 (.slice op_ p.parts.length cp_)
    have HWa := Lib.hid hwa
    clear hwa
    have ff0 := fr_of B4 0
    have cb_B4 := blk1 B4
    have cb_B11 := blk1 B11
    refine badStep (by kernel_rfl) (fun K HK => ?_)
    simp only [PK]
    go_wp2_with fail
    refine HK.out _ _ ?_
    clear HK K
    clear cb_B4 cb_B11
    rw [← HWa.out]
    clear HWa ff0
    replace RQ := Own.at1g RQ hca (by omega)
    replace u_RQ := Nat.le_trans u_RQ hca.size
    replace RP := Own.at1g RP hca (by omega)
    replace u_RP := Nat.le_trans u_RP hca.size
    replace RI := Own.at1g RI hca (by omega)
    replace u_RI := Nat.le_trans u_RI hca.size
    replace B11 := hca.blkS B11 (by unfold at1; omega)
    replace B4 := hba
    clear hba
    replace hxe := hxe.chg hca (fun i hi => by have h1 : i = w.heap.size := hi; omega)
    try clear hca
    refine blkStep (fun K HK => ?_)
    simp only [PK]
    go_wp2_with fail
    refine HK.out _ _ ?_
    clear HK K
    refine doneStep (by kernel_rfl) ?_
    have cr_B4 := blk1 B4
    have cr_B11 := blk1 B11
    have hwb := (hx0.trans hn1).size
    go_wp2_with fail
    refine bodyPost_ret (v := .tuple #[.slice oq l.length cq, .int .i64 (1 + i5), .agg #[.slice op_ p.parts.length cp_], .int .i64 rt, .int .i64 (40 + na), .int .i64 cq9, .int .i64 45]) (by simp [results, Try.results49, go_sem, cr_B4]) rfl ?_
    exact ⟨_, _, l, p, 1 + i5, rt, 40 + na, cq9, rfl, hl50, hp4, hx5, by omega, by omega, Own.rd _ RQ, Own.rd _ RP, hxe⟩
set_option maxRecDepth 100000 in
set_option maxHeartbeats 20000000 in
theorem s_DrawPathReserved (code : List Int) (cv : Value) (w : World) (hr : RdS Rep.byte w cv code) (hu : ∀ x ∈ code, U8 x) (hl : code.length ≤ 1048576) :
  Calls Try.prog 52 #[cv] w fun e w' => ∃ (vl vp : Value) (l : List Resv) (p : Pth) (id now : Int), e = .returned (.tuple #[vl, .int .i64 id, .agg #[vp], .int .i64 now]) ∧ l.length ≤ 50 ∧ p.parts.length ≤ 4 ∧ (∀ x ∈ p.parts, x.hops.length ≤ 5) ∧ RdS Resv.rep w' vl l ∧ RdS Part.rep w' vp p.parts ∧ Ext w w' := by
 have hx0 : Ext w (w.alloc (.cells #[.slice none 0 0] 46)) := (Ext.refl _).alloc _
 have HB := blk_new w (.cells #[.slice none 0 0] 46)
 go_enter Try.func52, Try.ntmps52
 go_wp2_with fail
 refine (s_l33Pair code _ _ (hr.ext hx0) hu hl).mono ?_
 rintro e w1 ⟨g, lo1, vl, vp, l, p, rfl, hl50, hp4, hx5, RQ, RP, hgl, hglo, hc1, hn1⟩
 have hgw := hc1.lt
 have s : DSt g cv code w1 w1 := ⟨hc1, Chg.refl _ _, hc1⟩
 have B4 := Ext.block hn1 HB
 have hgr : w.heap.size < g := by simp at hgl; omega
 clear HB
 have g_RQ : g < lo1 := hglo
 have u_RQ : w1.heap.size ≤ w1.heap.size := Nat.le_refl _
 have lt_B4_RQ : w.heap.size < lo1 := by omega
 have g_RP : g < lo1 := hglo
 have u_RP : w1.heap.size ≤ w1.heap.size := Nat.le_refl _
 have lt_B4_RP : w.heap.size < lo1 := by omega
 obtain ⟨oq, cq, rfl, _⟩ := RdS.shape (Own.rd _ RQ)
 obtain ⟨op_, cp_, rfl, _⟩ := RdS.shape (Own.rd _ RP)
 clear hc1
 have cb_B4 := blk1 B4
 go_upto_region 2 with (fail)
 clear cb_B4
 have hxa : Ext w1 (w1.alloc (.cells #[.slice op_ p.parts.length cp_] 46)) := (Ext.refl _).alloc _
 have BB := blk_new w1 (.cells #[.slice op_ p.parts.length cp_] 46)
 obtain ⟨b8, eb8⟩ : ∃ b, b = w1.heap.size := ⟨_, rfl⟩
 have ltw_b8 : w1.heap.size ≤ b8 := by rw [eb8]; exact s.x.size
 have lt_B4_b8 : w.heap.size < b8 := by rw [eb8]; exact blk_lt B4
 have hb_RQ_b8 : w1.heap.size ≤ b8 := by rw [eb8]; exact u_RQ
 have hb_RP_b8 : w1.heap.size ≤ b8 := by rw [eb8]; exact u_RP
 replace B4 := Ext.block hxa B4
 replace RQ := Own.ext RQ hxa
 replace u_RQ := Nat.le_trans u_RQ hxa.size
 replace RP := Own.ext RP hxa
 replace u_RP := Nat.le_trans u_RP hxa.size
 replace s := s.ext hxa
 have B8 := BB
 rw [← eb8] at B8
 rw [← eb8]
 clear hxa BB
 generalize (w1.alloc (.cells #[.slice op_ p.parts.length cp_] 46)) = wa at B4 B8 RQ RP u_RQ u_RP s ⊢
 clear eb8
 refine wp_region_fin (fun k => k = g ∨ k = w.heap.size) [([0, 1, 4, 5], 2), ([3], 6), ([7, 8, 9], 10)] [11] [] (by kernel_rfl) (by kernel_rfl) (by kernel_rfl) ?_
 have ch_B8 := blk1 B8
 have q0 := ChgSW.cell (S := fun k => k = g ∨ k = w.heap.size) (ch_B8) (by first | (unfold at1; simp only; omega) | (simp only; omega))
 clear ch_B8
 simp only [wpBlocksX, pickOps, PK]
 have hch : Chg (fun k => k = g ∨ k = w.heap.size) wa wa.drew := Chg.ofExt (Ext.refl wa).drew
 replace B4 := Ext.block ((Ext.refl wa).drew) B4
 replace B8 := Ext.block ((Ext.refl wa).drew) B8
 replace RQ := Own.ext RQ ((Ext.refl wa).drew)
 replace u_RQ := Nat.le_trans u_RQ ((Ext.refl wa).drew).size
 replace RP := Own.ext RP ((Ext.refl wa).drew)
 replace u_RP := Nat.le_trans u_RP ((Ext.refl wa).drew).size
 replace s := s.ext ((Ext.refl wa).drew)
 obtain ⟨wt, hnw⟩ : ∃ wn, wn = wa.drew := ⟨_, rfl⟩
 rw [← hnw] at B4 B8 RQ RP u_RQ u_RP s hch ⊢
 clear hnw
 repeat (first | go_big_quiet_step (fail) | quiet_step (fail))
 refine wpQuiet_nil ?_
 go_wp2_with fail
 refine (s_l1Below g (5) _ _ _ s.c).mono ?_
 rintro e w2 ⟨ia, rfl, ha0, ha1, hcq, hzq⟩
 replace B4 := hzq.blkS B4 (by unfold at1; omega)
 replace B8 := hzq.blkS B8 (by unfold at1; omega)
 replace RQ := Own.at1g RQ hzq (.inl g_RQ)
 replace u_RQ := Nat.le_trans u_RQ hzq.size
 replace RP := Own.at1g RP hzq (.inl g_RP)
 replace u_RP := Nat.le_trans u_RP hzq.size
 replace s := s.draw hcq hzq
 replace hch := hch.trans (hzq.mono (fun b h => .inl h))
 clear hzq hcq
 go_wp2_with fail
 refine ⟨⟨⟨_, hch⟩, rfl⟩, ?_⟩
 repeat (first | go_big_quiet_step (fail) | quiet_step (fail))
 refine wpQuiet_nil ?_
 go_wp2_with fail
 refine (s_l1Below g (20) _ _ _ s.c).mono ?_
 rintro e w3 ⟨ib, rfl, hb0, hb1, hcq, hzq⟩
 replace B4 := hzq.blkS B4 (by unfold at1; omega)
 replace B8 := hzq.blkS B8 (by unfold at1; omega)
 replace RQ := Own.at1g RQ hzq (.inl g_RQ)
 replace u_RQ := Nat.le_trans u_RQ hzq.size
 replace RP := Own.at1g RP hzq (.inl g_RP)
 replace u_RP := Nat.le_trans u_RP hzq.size
 replace s := s.draw hcq hzq
 replace hch := hch.trans (hzq.mono (fun b h => .inl h))
 clear hzq hcq
 go_wp2_with fail
 refine ⟨⟨⟨_, hch⟩, rfl⟩, ?_⟩
 repeat (first | go_big_quiet_step (fail) | quiet_step (fail))
 refine wpQuiet_nil ?_
 have hxe := hx0.trans (hn1.ofCur s.x hgl)
 obtain ⟨wpb, hwb, hbb, hcb⟩ := set1 B4 (.slice op_ p.parts.length cp_)
 have HWb := Lib.hid hwb
 clear hwb
 have ff0 := fr_of B4 0
 have cb := blk1 B4
 go_wp2_with fail
 rw [← HWb.out]
 clear HWb cb ff0
 replace hch := hch.trans (hcb.mono (fun b h => .inr h))
 refine ⟨⟨⟨_, hch⟩, rfl⟩, ?_⟩
 replace RQ := Own.at1g RQ hcb (by omega)
 replace u_RQ := Nat.le_trans u_RQ hcb.size
 replace RP := Own.at1g RP hcb (by omega)
 replace u_RP := Nat.le_trans u_RP hcb.size
 replace B8 := hcb.blkS B8 (by unfold at1; omega)
 replace B4 := hbb
 clear hbb
 replace hxe := hxe.chg hcb (fun i hi => by have h1 : i = w.heap.size := hi; omega)
 try clear hcb
 repeat (first | go_big_quiet_step (fail) | quiet_step (fail))
 refine wpQuiet_nil ?_
 refine NoPanic.normal ?_
 clear hch q0
 have cr_B4 := blk1 B4
 have cr_B8 := blk1 B8
 have hwb := (hx0.trans hn1).size
 go_wp2_with fail
 refine bodyPost_ret (v := .tuple #[.slice oq l.length cq, .int .i64 (1 + ia), .agg #[.slice op_ p.parts.length cp_], .int .i64 (45 + ib)]) (by simp [results, Try.results52, go_sem, cr_B4]) rfl ?_
 exact ⟨_, _, l, p, 1 + ia, 45 + ib, rfl, hl50, hp4, hx5, Own.rd _ RQ, Own.rd _ RP, hxe⟩
set_option maxRecDepth 100000 in
set_option maxHeartbeats 20000000 in
theorem s_DrawAvailableRate (code : List Int) (cv : Value) (w : World) (hr : RdS Rep.byte w cv code) (hu : ∀ x ∈ code, U8 x) (hl : code.length ≤ 1048576) :
  Calls Try.prog 53 #[cv] w fun e w' => ∃ (vl vp : Value) (l : List Resv) (p : Pth) (c : Int), e = .returned (.tuple #[vl, .agg #[vp], .int .i64 c, .int .i64 45]) ∧ l.length ≤ 50 ∧ p.parts.length ≤ 4 ∧ (∀ x ∈ p.parts, x.hops.length ≤ 5) ∧ RdS Resv.rep w' vl l ∧ RdS Part.rep w' vp p.parts ∧ Ext w w' := by
 have hx0 : Ext w (w.alloc (.cells #[.slice none 0 0] 46)) := (Ext.refl _).alloc _
 have HB := blk_new w (.cells #[.slice none 0 0] 46)
 go_enter Try.func53, Try.ntmps53
 go_wp2_with fail
 refine (s_l33Pair code _ _ (hr.ext hx0) hu hl).mono ?_
 rintro e w1 ⟨g, lo1, vl, vp, l, p, rfl, hl50, hp4, hx5, RQ, RP, hgl, hglo, hc1, hn1⟩
 have hgw := hc1.lt
 have s : DSt g cv code w1 w1 := ⟨hc1, Chg.refl _ _, hc1⟩
 have B3 := Ext.block hn1 HB
 have hgr : w.heap.size < g := by simp at hgl; omega
 clear HB
 have g_RQ : g < lo1 := hglo
 have u_RQ : w1.heap.size ≤ w1.heap.size := Nat.le_refl _
 have lt_B3_RQ : w.heap.size < lo1 := by omega
 have g_RP : g < lo1 := hglo
 have u_RP : w1.heap.size ≤ w1.heap.size := Nat.le_refl _
 have lt_B3_RP : w.heap.size < lo1 := by omega
 obtain ⟨oq, cq, rfl, _⟩ := RdS.shape (Own.rd _ RQ)
 obtain ⟨op_, cp_, rfl, _⟩ := RdS.shape (Own.rd _ RP)
 clear hc1
 have cb_B3 := blk1 B3
 go_upto_region 2 with (fail)
 clear cb_B3
 have hxa : Ext w1 (w1.alloc (.cells #[.slice op_ p.parts.length cp_] 46)) := (Ext.refl _).alloc _
 have BB := blk_new w1 (.cells #[.slice op_ p.parts.length cp_] 46)
 obtain ⟨b8, eb8⟩ : ∃ b, b = w1.heap.size := ⟨_, rfl⟩
 have ltw_b8 : w1.heap.size ≤ b8 := by rw [eb8]; exact s.x.size
 have lt_B3_b8 : w.heap.size < b8 := by rw [eb8]; exact blk_lt B3
 have hb_RQ_b8 : w1.heap.size ≤ b8 := by rw [eb8]; exact u_RQ
 have hb_RP_b8 : w1.heap.size ≤ b8 := by rw [eb8]; exact u_RP
 replace B3 := Ext.block hxa B3
 replace RQ := Own.ext RQ hxa
 replace u_RQ := Nat.le_trans u_RQ hxa.size
 replace RP := Own.ext RP hxa
 replace u_RP := Nat.le_trans u_RP hxa.size
 replace s := s.ext hxa
 have B8 := BB
 rw [← eb8] at B8
 rw [← eb8]
 clear hxa BB
 generalize (w1.alloc (.cells #[.slice op_ p.parts.length cp_] 46)) = wa at B3 B8 RQ RP u_RQ u_RP s ⊢
 clear eb8
 replace B3 := Ext.block ((Ext.refl wa).drew) B3
 replace B8 := Ext.block ((Ext.refl wa).drew) B8
 replace RQ := Own.ext RQ ((Ext.refl wa).drew)
 replace u_RQ := Nat.le_trans u_RQ ((Ext.refl wa).drew).size
 replace RP := Own.ext RP ((Ext.refl wa).drew)
 replace u_RP := Nat.le_trans u_RP ((Ext.refl wa).drew).size
 replace s := s.ext ((Ext.refl wa).drew)
 refine planStep (.blk [0, 2] (.two 1 3 (.one 3 (.one 4 (.blk [5] (.one 6 (.blk [7, 8] .done))))) (.two 1 4 (.one 4 (.blk [5] (.one 6 (.blk [7, 8] .done)))) (.blk [5] (.one 1 (.one 6 (.blk [7, 8] .done))))))) [4, 6] (by kernel_rfl) (by kernel_rfl) ?_
 generalize wa.drew = wdd at B3 B8 RQ RP u_RQ u_RP s ⊢
 refine blkStep (fun K HK => ?_)
 simp only [PK]
 go_wp2_with fail
 refine HK.out _ _ ?_
 clear HK K
 refine twoStep ?_ ?_
 ·
  have cB := blk1 B8
  refine oneStep (fun K HK => ?_)
  simp only [PK]
  go_wp2_with fail
  refine HK.out _ _ (Ext.refl _) ?_
  clear HK K cB
  have hgl8 : g < wdd.heap.size := s.c.lt
  have RI : (Own.keep Rep.int).own (rng wdd.heap.size (wdd.alloc (.cells #[.int .i64 8, .int .i64 8, .int .i64 4, .int .i64 0] 3)).heap.size) (wdd.alloc (.cells #[.int .i64 8, .int .i64 8, .int .i64 4, .int .i64 0] 3)) (.slice (some ⟨wdd.heap.size, 0, none⟩) 4 4) [8, 8, 4, 0] := Own.toKeep (Own.ofFr (hf := intFlen) (OwnF.lit intFlen wdd.heap.size 3 wdd [8, 8, 4, 0] (Nat.le_refl _) (by simp [maxLen])) (Nat.le_refl _))
  have hx8 : Ext wdd (wdd.alloc (.cells #[.int .i64 8, .int .i64 8, .int .i64 4, .int .i64 0] 3)) := (Ext.refl _).alloc _
  have g_RI : g < wdd.heap.size := hgl8
  have u_RI := Nat.le_refl (wdd.alloc (.cells #[.int .i64 8, .int .i64 8, .int .i64 4, .int .i64 0] 3)).heap.size
  refine oneStep (fun K HK => ?_)
  simp only [PK]
  go_wp2_with fail
  refine HK.out _ _ hx8 ?_
  clear HK K
  replace B3 := Ext.block hx8 B3
  replace B8 := Ext.block hx8 B8
  replace RQ := Own.ext RQ hx8
  replace u_RQ := Nat.le_trans u_RQ hx8.size
  replace RP := Own.ext RP hx8
  replace u_RP := Nat.le_trans u_RP hx8.size
  replace s := s.ext hx8
  generalize wdd.alloc (.cells #[.int .i64 8, .int .i64 8, .int .i64 4, .int .i64 0] 3) = w8 at B3 B8 RQ RP RI u_RQ u_RP u_RI s ⊢
  clear hx8
  refine badStep (by kernel_rfl) (fun K HK => ?_)
  simp only [PK]
  go_wp2_with fail
  refine (s_l1IntS g [8, 8, 4, 0] _ _ _ _ s.c (Own.stR RI (.inl g_RI)) (by decide) (by decide)).mono ?_
  rintro e w2 ⟨cq9, rfl, hcq9, hcq, hzq⟩
  replace B3 := hzq.blkS B3 (by unfold at1; omega)
  replace B8 := hzq.blkS B8 (by unfold at1; omega)
  replace RQ := Own.at1g RQ hzq (.inl g_RQ)
  replace u_RQ := Nat.le_trans u_RQ hzq.size
  replace RP := Own.at1g RP hzq (.inl g_RP)
  replace u_RP := Nat.le_trans u_RP hzq.size
  replace RI := Own.at1g RI hzq (.inl g_RI)
  replace u_RI := Nat.le_trans u_RI hzq.size
  replace s := s.draw hcq hzq
  clear hcq9
  clear hzq hcq
  go_wp2_with fail
  refine HK.out _ _ ?_
  clear HK K
  refine blkStep (fun K HK => ?_)
  simp only [PK]
  go_wp2_with fail
  refine HK.out _ _ ?_
  clear HK K
  have hxe := hx0.trans (hn1.ofCur s.x hgl)
  obtain ⟨wpa, hwa, hba, hca⟩ := set1 B3 (.slice op_ p.parts.length cp_)
  have HWa := Lib.hid hwa
  clear hwa
  have ff0 := fr_of B3 0
  have cb_B3 := blk1 B3
  have cb_B8 := blk1 B8
  refine badStep (by kernel_rfl) (fun K HK => ?_)
  simp only [PK]
  go_wp2_with fail
  refine HK.out _ _ ?_
  clear HK K
  clear cb_B3 cb_B8
  rw [← HWa.out]
  clear HWa ff0
  replace RQ := Own.at1g RQ hca (by omega)
  replace u_RQ := Nat.le_trans u_RQ hca.size
  replace RP := Own.at1g RP hca (by omega)
  replace u_RP := Nat.le_trans u_RP hca.size
  replace RI := Own.at1g RI hca (by omega)
  replace u_RI := Nat.le_trans u_RI hca.size
  replace B8 := hca.blkS B8 (by unfold at1; omega)
  replace B3 := hba
  clear hba
  replace hxe := hxe.chg hca (fun i hi => by have h1 : i = w.heap.size := hi; omega)
  try clear hca
  refine blkStep (fun K HK => ?_)
  simp only [PK]
  go_wp2_with fail
  refine HK.out _ _ ?_
  clear HK K
  refine doneStep (by kernel_rfl) ?_
  have cr_B3 := blk1 B3
  have cr_B8 := blk1 B8
  have hwb := (hx0.trans hn1).size
  go_wp2_with fail
  refine bodyPost_ret (v := .tuple #[.slice oq l.length cq, .agg #[.slice op_ p.parts.length cp_], .int .i64 cq9, .int .i64 45]) (by simp [results, Try.results53, go_sem, cr_B3]) rfl ?_
  exact ⟨_, _, l, p, cq9, rfl, hl50, hp4, hx5, Own.rd _ RQ, Own.rd _ RP, hxe⟩
 ·
  have hgl8 : g < wdd.heap.size := s.c.lt
  have RI : (Own.keep Rep.int).own (rng wdd.heap.size (wdd.alloc (.cells #[.int .i64 8, .int .i64 8, .int .i64 4, .int .i64 0] 3)).heap.size) (wdd.alloc (.cells #[.int .i64 8, .int .i64 8, .int .i64 4, .int .i64 0] 3)) (.slice (some ⟨wdd.heap.size, 0, none⟩) 4 4) [8, 8, 4, 0] := Own.toKeep (Own.ofFr (hf := intFlen) (OwnF.lit intFlen wdd.heap.size 3 wdd [8, 8, 4, 0] (Nat.le_refl _) (by simp [maxLen])) (Nat.le_refl _))
  have hx8 : Ext wdd (wdd.alloc (.cells #[.int .i64 8, .int .i64 8, .int .i64 4, .int .i64 0] 3)) := (Ext.refl _).alloc _
  have g_RI : g < wdd.heap.size := hgl8
  have u_RI := Nat.le_refl (wdd.alloc (.cells #[.int .i64 8, .int .i64 8, .int .i64 4, .int .i64 0] 3)).heap.size
  refine oneStep (fun K HK => ?_)
  simp only [PK]
  go_wp2_with fail
  refine HK.out _ _ hx8 ?_
  clear HK K
  replace B3 := Ext.block hx8 B3
  replace B8 := Ext.block hx8 B8
  replace RQ := Own.ext RQ hx8
  replace u_RQ := Nat.le_trans u_RQ hx8.size
  replace RP := Own.ext RP hx8
  replace u_RP := Nat.le_trans u_RP hx8.size
  replace s := s.ext hx8
  generalize wdd.alloc (.cells #[.int .i64 8, .int .i64 8, .int .i64 4, .int .i64 0] 3) = w8 at B3 B8 RQ RP RI u_RQ u_RP u_RI s ⊢
  clear hx8
  refine twoStep ?_ ?_
  ·
   have cB := blk1 B8
   refine oneStep (fun K HK => ?_)
   simp only [PK]
   go_wp2_with fail
   refine HK.out _ _ (Ext.refl _) ?_
   clear HK K cB
   refine badStep (by kernel_rfl) (fun K HK => ?_)
   simp only [PK]
   go_wp2_with fail
   refine (s_l1IntS g [8, 8, 4, 0] _ _ _ _ s.c (Own.stR RI (.inl g_RI)) (by decide) (by decide)).mono ?_
   rintro e w2 ⟨cq9, rfl, hcq9, hcq, hzq⟩
   replace B3 := hzq.blkS B3 (by unfold at1; omega)
   replace B8 := hzq.blkS B8 (by unfold at1; omega)
   replace RQ := Own.at1g RQ hzq (.inl g_RQ)
   replace u_RQ := Nat.le_trans u_RQ hzq.size
   replace RP := Own.at1g RP hzq (.inl g_RP)
   replace u_RP := Nat.le_trans u_RP hzq.size
   replace RI := Own.at1g RI hzq (.inl g_RI)
   replace u_RI := Nat.le_trans u_RI hzq.size
   replace s := s.draw hcq hzq
   clear hcq9
   clear hzq hcq
   go_wp2_with fail
   refine HK.out _ _ ?_
   clear HK K
   refine blkStep (fun K HK => ?_)
   simp only [PK]
   go_wp2_with fail
   refine HK.out _ _ ?_
   clear HK K
   have hxe := hx0.trans (hn1.ofCur s.x hgl)
   obtain ⟨wpa, hwa, hba, hca⟩ := set1 B3 (.slice op_ p.parts.length cp_)
   have HWa := Lib.hid hwa
   clear hwa
   have ff0 := fr_of B3 0
   have cb_B3 := blk1 B3
   have cb_B8 := blk1 B8
   refine badStep (by kernel_rfl) (fun K HK => ?_)
   simp only [PK]
   go_wp2_with fail
   refine HK.out _ _ ?_
   clear HK K
   clear cb_B3 cb_B8
   rw [← HWa.out]
   clear HWa ff0
   replace RQ := Own.at1g RQ hca (by omega)
   replace u_RQ := Nat.le_trans u_RQ hca.size
   replace RP := Own.at1g RP hca (by omega)
   replace u_RP := Nat.le_trans u_RP hca.size
   replace RI := Own.at1g RI hca (by omega)
   replace u_RI := Nat.le_trans u_RI hca.size
   replace B8 := hca.blkS B8 (by unfold at1; omega)
   replace B3 := hba
   clear hba
   replace hxe := hxe.chg hca (fun i hi => by have h1 : i = w.heap.size := hi; omega)
   try clear hca
   refine blkStep (fun K HK => ?_)
   simp only [PK]
   go_wp2_with fail
   refine HK.out _ _ ?_
   clear HK K
   refine doneStep (by kernel_rfl) ?_
   have cr_B3 := blk1 B3
   have cr_B8 := blk1 B8
   have hwb := (hx0.trans hn1).size
   go_wp2_with fail
   refine bodyPost_ret (v := .tuple #[.slice oq l.length cq, .agg #[.slice op_ p.parts.length cp_], .int .i64 cq9, .int .i64 45]) (by simp [results, Try.results53, go_sem, cr_B3]) rfl ?_
   exact ⟨_, _, l, p, cq9, rfl, hl50, hp4, hx5, Own.rd _ RQ, Own.rd _ RP, hxe⟩
  ·
   refine badStep (by kernel_rfl) (fun K HK => ?_)
   simp only [PK]
   go_wp2_with fail
   refine (s_l1IntS g [8, 8, 4, 0] _ _ _ _ s.c (Own.stR RI (.inl g_RI)) (by decide) (by decide)).mono ?_
   rintro e w2 ⟨cq9, rfl, hcq9, hcq, hzq⟩
   replace B3 := hzq.blkS B3 (by unfold at1; omega)
   replace B8 := hzq.blkS B8 (by unfold at1; omega)
   replace RQ := Own.at1g RQ hzq (.inl g_RQ)
   replace u_RQ := Nat.le_trans u_RQ hzq.size
   replace RP := Own.at1g RP hzq (.inl g_RP)
   replace u_RP := Nat.le_trans u_RP hzq.size
   replace RI := Own.at1g RI hzq (.inl g_RI)
   replace u_RI := Nat.le_trans u_RI hzq.size
   replace s := s.draw hcq hzq
   clear hcq9
   clear hzq hcq
   go_wp2_with fail
   refine HK.out _ _ ?_
   clear HK K
   refine blkStep (fun K HK => ?_)
   simp only [PK]
   go_wp2_with fail
   refine HK.out _ _ ?_
   clear HK K
   have cB := blk1 B8
   refine oneStep (fun K HK => ?_)
   simp only [PK]
   go_wp2_with fail
   refine HK.out _ _ (Ext.refl _) ?_
   clear HK K cB
   have hxe := hx0.trans (hn1.ofCur s.x hgl)
   obtain ⟨wpa, hwa, hba, hca⟩ := set1 B3 (.slice op_ p.parts.length cp_)
   have HWa := Lib.hid hwa
   clear hwa
   have ff0 := fr_of B3 0
   have cb_B3 := blk1 B3
   have cb_B8 := blk1 B8
   refine badStep (by kernel_rfl) (fun K HK => ?_)
   simp only [PK]
   go_wp2_with fail
   refine HK.out _ _ ?_
   clear HK K
   clear cb_B3 cb_B8
   rw [← HWa.out]
   clear HWa ff0
   replace RQ := Own.at1g RQ hca (by omega)
   replace u_RQ := Nat.le_trans u_RQ hca.size
   replace RP := Own.at1g RP hca (by omega)
   replace u_RP := Nat.le_trans u_RP hca.size
   replace RI := Own.at1g RI hca (by omega)
   replace u_RI := Nat.le_trans u_RI hca.size
   replace B8 := hca.blkS B8 (by unfold at1; omega)
   replace B3 := hba
   clear hba
   replace hxe := hxe.chg hca (fun i hi => by have h1 : i = w.heap.size := hi; omega)
   try clear hca
   refine blkStep (fun K HK => ?_)
   simp only [PK]
   go_wp2_with fail
   refine HK.out _ _ ?_
   clear HK K
   refine doneStep (by kernel_rfl) ?_
   have cr_B3 := blk1 B3
   have cr_B8 := blk1 B8
   have hwb := (hx0.trans hn1).size
   go_wp2_with fail
   refine bodyPost_ret (v := .tuple #[.slice oq l.length cq, .agg #[.slice op_ p.parts.length cp_], .int .i64 cq9, .int .i64 45]) (by simp [results, Try.results53, go_sem, cr_B3]) rfl ?_
   exact ⟨_, _, l, p, cq9, rfl, hl50, hp4, hx5, Own.rd _ RQ, Own.rd _ RP, hxe⟩
set_option maxRecDepth 100000 in
set_option maxHeartbeats 20000000 in
theorem s_DrawReservationIDs (code : List Int) (cv : Value) (w : World) (hr : RdS Rep.byte w cv code) (hu : ∀ x ∈ code, U8 x) (hl : code.length ≤ 1048576) :
  Calls Try.prog 54 #[cv] w fun e w' => ∃ (vl : Value) (l : List Resv), e = .returned vl ∧ l.length ≤ 50 ∧ RdS Resv.rep w' vl l ∧ Ext w w' := by
 have hx0 := Ext.refl w
 go_enter Try.func54, Try.ntmps54
 go_wp2_with fail
 refine (s_l33Pair code _ _ (hr.ext hx0) hu hl).mono ?_
 rintro e w1 ⟨g, lo1, vl, vp, l, p, rfl, hl50, hp4, hx5, RQ, RP, hgl, hglo, hc1, hn1⟩
 have hgw := hc1.lt
 have s : DSt g cv code w1 w1 := ⟨hc1, Chg.refl _ _, hc1⟩
 have g_RQ : g < lo1 := hglo
 have u_RQ : w1.heap.size ≤ w1.heap.size := Nat.le_refl _
 have g_RP : g < lo1 := hglo
 have u_RP : w1.heap.size ≤ w1.heap.size := Nat.le_refl _
 obtain ⟨oq, cq, rfl, _⟩ := RdS.shape (Own.rd _ RQ)
 obtain ⟨op_, cp_, rfl, _⟩ := RdS.shape (Own.rd _ RP)
 clear hc1
 go_upto_region 2 with (fail)
 have hxa : Ext w1 (w1.alloc (.cells #[.slice op_ p.parts.length cp_] 46)) := (Ext.refl _).alloc _
 have BB := blk_new w1 (.cells #[.slice op_ p.parts.length cp_] 46)
 obtain ⟨b5, eb5⟩ : ∃ b, b = w1.heap.size := ⟨_, rfl⟩
 have ltw_b5 : w1.heap.size ≤ b5 := by rw [eb5]; exact s.x.size
 have hb_RQ_b5 : w1.heap.size ≤ b5 := by rw [eb5]; exact u_RQ
 have hb_RP_b5 : w1.heap.size ≤ b5 := by rw [eb5]; exact u_RP
 replace RQ := Own.ext RQ hxa
 replace u_RQ := Nat.le_trans u_RQ hxa.size
 replace RP := Own.ext RP hxa
 replace u_RP := Nat.le_trans u_RP hxa.size
 replace s := s.ext hxa
 have B5 := BB
 rw [← eb5] at B5
 rw [← eb5]
 clear hxa BB
 generalize (w1.alloc (.cells #[.slice op_ p.parts.length cp_] 46)) = wa at B5 RQ RP u_RQ u_RP s ⊢
 clear eb5
 have hxe := hx0.trans (hn1.ofCur s.x hgl)
 go_wp2_with fail
 go_ret
 exact ⟨_, l, rfl, hl50, Own.rd _ RQ, hxe⟩
set_option maxRecDepth 100000 in
set_option maxHeartbeats 20000000 in
theorem s_DrawEqualReservations (code : List Int) (cv : Value) (w : World) (hr : RdS Rep.byte w cv code) (hu : ∀ x ∈ code, U8 x) (hl : code.length ≤ 1048576) :
  Calls Try.prog 55 #[cv] w fun e w' => ∃ (va vb : Value) (a b : List Resv), e = .returned (.tuple #[va, vb]) ∧ a.length ≤ 50 ∧ b.length ≤ 50 ∧ RdS Resv.rep w' va a ∧ RdS Resv.rep w' vb b ∧ Ext w w' := by
 obtain ⟨E⟩ := elemResv
 have hx0 := Ext.refl w
 go_enter Try.func55, Try.ntmps55
 go_wp2_with fail
 refine (s_l33Pair code _ _ (hr.ext hx0) hu hl).mono ?_
 rintro e w1 ⟨g, lo1, vl, vp, l, p, rfl, hl50, hp4, hx5, RQ, RP, hgl, hglo, hc1, hn1⟩
 have hgw := hc1.lt
 have s : DSt g cv code w1 w1 := ⟨hc1, Chg.refl _ _, hc1⟩
 have g_RQ : g < lo1 := hglo
 have u_RQ : w1.heap.size ≤ w1.heap.size := Nat.le_refl _
 have g_RP : g < lo1 := hglo
 have u_RP : w1.heap.size ≤ w1.heap.size := Nat.le_refl _
 obtain ⟨oq, cq, rfl, _⟩ := RdS.shape (Own.rd _ RQ)
 obtain ⟨op_, cp_, rfl, _⟩ := RdS.shape (Own.rd _ RP)
 clear hc1
 go_upto_region 2 with (fail)
 have hxa : Ext w1 (w1.alloc (.cells #[.slice op_ p.parts.length cp_] 46)) := (Ext.refl _).alloc _
 have BB := blk_new w1 (.cells #[.slice op_ p.parts.length cp_] 46)
 obtain ⟨b6, eb6⟩ : ∃ b, b = w1.heap.size := ⟨_, rfl⟩
 have ltw_b6 : w1.heap.size ≤ b6 := by rw [eb6]; exact s.x.size
 have hb_RQ_b6 : w1.heap.size ≤ b6 := by rw [eb6]; exact u_RQ
 have hb_RP_b6 : w1.heap.size ≤ b6 := by rw [eb6]; exact u_RP
 replace RQ := Own.ext RQ hxa
 replace u_RQ := Nat.le_trans u_RQ hxa.size
 replace RP := Own.ext RP hxa
 replace u_RP := Nat.le_trans u_RP hxa.size
 replace s := s.ext hxa
 have B6 := BB
 rw [← eb6] at B6
 rw [← eb6]
 clear hxa BB
 generalize (w1.alloc (.cells #[.slice op_ p.parts.length cp_] 46)) = wa at B6 RQ RP u_RQ u_RP s ⊢
 clear eb6
 clear B6
 clear u_RP g_RP
 clear RP
 go_wp2_with fail
 refine (s_l1Once g (2) _ _ _ s.c).mono ?_
 rintro e w2 ⟨b1, rfl, hcq, hzq⟩
 replace RQ := Own.at1g RQ hzq (.inl g_RQ)
 replace u_RQ := Nat.le_trans u_RQ hzq.size
 replace s := s.draw hcq hzq
 clear hzq hcq
 cases b1
 case false =>
  go_wp2_with fail
  refine (s_l32List g _ _ _ s.c).mono ?_
  rintro e w3 ⟨vm, m, rfl, hm50, OM, hcq, hzq⟩
  replace RQ := Own.at1g RQ hzq (.inl g_RQ)
  replace u_RQ := Nat.le_trans u_RQ hzq.size
  replace s := s.draw hcq hzq
  clear hzq hcq
  have rM := OwnF.rd (hf := Resv.flen) OM
  have hxe := hx0.trans (hn1.ofCur s.x hgl)
  go_wp2_with fail
  refine bodyPost_ret (v := .tuple #[.slice oq l.length cq, vm]) (by simp [results, Try.results55, go_sem]) rfl ?_
  exact ⟨_, _, l, m, rfl, hl50, hm50, Own.rd _ RQ, rM, hxe⟩
 case true =>
  go_wp2_with (at_builtin; refine appE E Resv.flen Resv.one rfl _ _ rfl l rfl (OwnF.emptyAt (f := Resv.f) (n := 5) (base := w2.heap.size) (by simp) (by omega)) rfl ((Own.rd _ RQ).ext ((Ext.refl _).alloc _)) (by omega) (by unfold maxLen; omega) (by simp) ?_)
  intro v' w' ho' hx'
  have rM := OwnF.rd (hf := Resv.flen) ho'
  have hxn : Ext w2 w' := ((Ext.refl w2).alloc _).trans hx'
  have hxe := (hx0.trans (hn1.ofCur s.x hgl)).trans hxn
  have rQ2 := (Own.rd _ RQ).ext hxn
  try rw [List.nil_append] at rM
  go_wp2_with fail
  refine bodyPost_ret (v := .tuple #[.slice oq l.length cq, v']) (by simp [results, Try.results55, go_sem]) rfl ?_
  exact ⟨_, _, l, l, rfl, hl50, hl50, rQ2, rM, hxe⟩
end
end Go.Proofs.Ytikbeiafobnblaa
