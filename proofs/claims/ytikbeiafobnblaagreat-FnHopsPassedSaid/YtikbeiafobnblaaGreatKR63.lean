/- What these laws need: FnHopsPassed: The draws of the code: a packet that has come some way, and what is asked of its hop. -/
import Derived.Test.YtikbeiafobnblaaGreatKR41
import Derived.Test.YtikbeiafobnblaaGreatKR62
namespace Go.Proofs.YtikbeiafobnblaaGreat
section
open Go.ChangeShapes Go.WideShapes Go.ChangeAt Go.RowKit Go.Deep
set_option maxRecDepth 100000 in
set_option maxHeartbeats 40000000 in
theorem s_DrawAdvanceHop (code : List Int) (cv : Value) (w : World) (hr : RdS Rep.byte w cv code) (hu : ∀ x ∈ code, U8 x) (hl : code.length ≤ 1048576) :
  Calls Tryz.prog 11 #[cv] w fun e w' => ∃ (u0 u1 : Value) (x : Pkt), e = .returned (.agg #[.int .i64 x.kind, .int .i64 x.src, .int .i64 x.dst, u0, .int .i64 x.pi, .int .i64 x.hi, .int .i64 x.beta, .int .i64 x.rid, .int .i64 x.seq, u1]) ∧ PktBd x ∧ (Own.keep Part.rep).own (rng w.heap.size w'.heap.size) w' u0 x.path.parts ∧ (Own.keep Rep.byte).own (rng w.heap.size w'.heap.size) w' u1 x.pay ∧ Ext w w' := by
 have hx0 : Ext w (w.alloc (.cells #[.int .i64 0, .int .i64 0, .int .i64 0, .slice none 0 0, .int .i64 0, .int .i64 0, .int .i64 0, .int .i64 0, .int .i64 0, .slice none 0 0] 28)) := (Ext.refl _).alloc _
 have HB := blk_new w (.cells #[.int .i64 0, .int .i64 0, .int .i64 0, .slice none 0 0, .int .i64 0, .int .i64 0, .int .i64 0, .int .i64 0, .int .i64 0, .slice none 0 0] 28)
 go_enter Tryz.func11, Tryz.ntmps11
 go_wp2_with fail
 refine (s_l28One code _ _ (hr.ext hx0) hu hl).mono ?_
 rintro e w1 ⟨g, lo1, v1, v2, u0, u1, t, x, r, inn, rfl, TK, hxb, RA, RL, R0, R1, hgl, hglo, hc1, hn1⟩
 have hgw := hc1.lt
 have s : DSt g cv code w1 w1 := ⟨hc1, Chg.refl _ _, hc1⟩
 have B2 := Ext.block hn1 HB
 have hgr : w.heap.size < g := by simp at hgl; omega
 clear HB
 have g_RA : g < lo1 := hglo
 have u_RA : w1.heap.size ≤ w1.heap.size := Nat.le_refl _
 have lt_B2_RA : w.heap.size < lo1 := by omega
 have g_RL : g < lo1 := hglo
 have u_RL : w1.heap.size ≤ w1.heap.size := Nat.le_refl _
 have lt_B2_RL : w.heap.size < lo1 := by omega
 have g_R0 : g < lo1 := hglo
 have u_R0 : w1.heap.size ≤ w1.heap.size := Nat.le_refl _
 have lt_B2_R0 : w.heap.size < lo1 := by omega
 have g_R1 : g < lo1 := hglo
 have u_R1 : w1.heap.size ≤ w1.heap.size := Nat.le_refl _
 have lt_B2_R1 : w.heap.size < lo1 := by omega
 obtain ⟨o1, c1, rfl, _⟩ := RdS.shape (Own.rd _ RA)
 obtain ⟨o2, c2, rfl, _⟩ := RdS.shape (Own.rd _ RL)
 obtain ⟨o_0, c_0, rfl, _⟩ := RdS.shape (Own.rd _ R0)
 obtain ⟨o_1, c_1, rfl, _⟩ := RdS.shape (Own.rd _ R1)
 clear hc1
 have cb_B2 := blk10 B2
 go_upto_region 2 with (fail)
 clear cb_B2
 have hxa := ext2 w1 (.cells #[.slice o1 t.ases.length c1, .slice o2 t.links.length c2] 33) (.cells #[.int .i64 x.kind, .int .i64 x.src, .int .i64 x.dst, .slice o_0 x.path.parts.length c_0, .int .i64 x.pi, .int .i64 x.hi, .int .i64 x.beta, .int .i64 x.rid, .int .i64 x.seq, .slice o_1 x.pay.length c_1] 28)
 have BB := al2 w1 (.cells #[.slice o1 t.ases.length c1, .slice o2 t.links.length c2] 33) (.cells #[.int .i64 x.kind, .int .i64 x.src, .int .i64 x.dst, .slice o_0 x.path.parts.length c_0, .int .i64 x.pi, .int .i64 x.hi, .int .i64 x.beta, .int .i64 x.rid, .int .i64 x.seq, .slice o_1 x.pay.length c_1] 28)
 obtain ⟨b6, eb6⟩ : ∃ b, b = w1.heap.size := ⟨_, rfl⟩
 have ltw_b6 : w1.heap.size ≤ b6 := by rw [eb6]; exact s.x.size
 have lt_B2_b6 : w.heap.size < b6 := by rw [eb6]; exact blk_lt B2
 have hb_RA_b6 : w1.heap.size ≤ b6 := by rw [eb6]; exact u_RA
 have hb_RL_b6 : w1.heap.size ≤ b6 := by rw [eb6]; exact u_RL
 have hb_R0_b6 : w1.heap.size ≤ b6 := by rw [eb6]; exact u_R0
 have hb_R1_b6 : w1.heap.size ≤ b6 := by rw [eb6]; exact u_R1
 replace B2 := Ext.block hxa B2
 replace RA := Own.ext RA hxa
 replace u_RA := Nat.le_trans u_RA hxa.size
 replace RL := Own.ext RL hxa
 replace u_RL := Nat.le_trans u_RL hxa.size
 replace R0 := Own.ext R0 hxa
 replace u_R0 := Nat.le_trans u_R0 hxa.size
 replace R1 := Own.ext R1 hxa
 replace u_R1 := Nat.le_trans u_R1 hxa.size
 replace s := s.ext hxa
 have B6 := BB.1
 have B7 := BB.2
 rw [← eb6] at B6 B7
 rw [← eb6]
 clear hxa BB
 generalize ((w1.alloc (.cells #[.slice o1 t.ases.length c1, .slice o2 t.links.length c2] 33)).alloc (.cells #[.int .i64 x.kind, .int .i64 x.src, .int .i64 x.dst, .slice o_0 x.path.parts.length c_0, .int .i64 x.pi, .int .i64 x.hi, .int .i64 x.beta, .int .i64 x.rid, .int .i64 x.seq, .slice o_1 x.pay.length c_1] 28)) = wa at B2 B6 B7 RA RL R0 R1 u_RA u_RL u_R0 u_R1 s ⊢
 clear eb6
 obtain ⟨wpd, hwd, hbd, hcd⟩ := ten_set B2 (.int .i64 x.kind) (.int .i64 x.src) (.int .i64 x.dst) (.slice o_0 x.path.parts.length c_0) (.int .i64 x.pi) (.int .i64 x.hi) (.int .i64 x.beta) (.int .i64 x.rid) (.int .i64 x.seq) (.slice o_1 x.pay.length c_1)
 have ff0 := fr_of B2 0
 have ff1 := fr_of B2 1
 have ff2 := fr_of B2 2
 have ff3 := fr_of B2 3
 have ff4 := fr_of B2 4
 have ff5 := fr_of B2 5
 have ff6 := fr_of B2 6
 have ff7 := fr_of B2 7
 have ff8 := fr_of B2 8
 have ff9 := fr_of B2 9
 have HWd := Lib.hid hwd
 clear hwd
 have cb_B2 := blk10 B2
 have cb_B6 := blk2 B6
 have cb_B7 := blk10 B7
 go_wp2_with fail
 clear cb_B2 cb_B6 cb_B7
 rw [← HWd.out]
 clear HWd ff0 ff1 ff2 ff3 ff4 ff5 ff6 ff7 ff8 ff9
 have hxe := hx0.trans (hn1.ofCur s.x hgl)
 replace RA := Own.at1g RA hcd (by omega)
 replace u_RA := Nat.le_trans u_RA hcd.size
 replace RL := Own.at1g RL hcd (by omega)
 replace u_RL := Nat.le_trans u_RL hcd.size
 replace R0 := Own.at1g R0 hcd (by omega)
 replace u_R0 := Nat.le_trans u_R0 hcd.size
 replace R1 := Own.at1g R1 hcd (by omega)
 replace u_R1 := Nat.le_trans u_R1 hcd.size
 replace B6 := hcd.blkS B6 (by unfold at1; omega)
 replace B7 := hcd.blkS B7 (by unfold at1; omega)
 replace B2 := hbd
 clear hbd
 replace hxe := hxe.chg hcd (fun i hi => by have h1 : i = w.heap.size := hi; omega)
 try clear hcd
 have cr_B2 := blk10 B2
 have cr_B6 := blk2 B6
 have cr_B7 := blk10 B7
 have hwb := (hx0.trans hn1).size
 go_wp2_with fail
 refine bodyPost_ret (v := .agg #[.int .i64 x.kind, .int .i64 x.src, .int .i64 x.dst, .slice o_0 x.path.parts.length c_0, .int .i64 x.pi, .int .i64 x.hi, .int .i64 x.beta, .int .i64 x.rid, .int .i64 x.seq, .slice o_1 x.pay.length c_1]) (by simp [results, Tryz.results11, go_sem, cr_B2]) rfl ?_
 exact ⟨_, _, x, rfl, hxb, (Own.upTo (Own.lo R0 (by omega)) (Nat.le_refl _)), (Own.upTo (Own.lo R1 (by omega)) (Nat.le_refl _)), hxe⟩
set_option maxRecDepth 100000 in
set_option maxHeartbeats 40000000 in
theorem s_DrawVerifyCurrentHop (code : List Int) (cv : Value) (w : World) (hr : RdS Rep.byte w cv code) (hu : ∀ x ∈ code, U8 x) (hl : code.length ≤ 1048576) :
  Calls Tryz.prog 12 #[cv] w fun e w' => ∃ (v1 v2 u0 u1 : Value) (t : Topo) (x : Pkt), e = .returned (.tuple #[.agg #[v1, v2], .agg #[.int .i64 x.kind, .int .i64 x.src, .int .i64 x.dst, u0, .int .i64 x.pi, .int .i64 x.hi, .int .i64 x.beta, .int .i64 x.rid, .int .i64 x.seq, u1]]) ∧ TopoOk t ∧ PktBd x ∧ (Own.keep ASd.rep).own (rng w.heap.size w'.heap.size) w' v1 t.ases ∧ (Own.keep Lnk.rep).own (rng w.heap.size w'.heap.size) w' v2 t.links ∧ (Own.keep Part.rep).own (rng w.heap.size w'.heap.size) w' u0 x.path.parts ∧ (Own.keep Rep.byte).own (rng w.heap.size w'.heap.size) w' u1 x.pay ∧ Ext w w' := by
 have hx0 := ext2 w (.cells #[.slice none 0 0, .slice none 0 0] 33) (.cells #[.int .i64 0, .int .i64 0, .int .i64 0, .slice none 0 0, .int .i64 0, .int .i64 0, .int .i64 0, .int .i64 0, .int .i64 0, .slice none 0 0] 28)
 have HB := al2 w (.cells #[.slice none 0 0, .slice none 0 0] 33) (.cells #[.int .i64 0, .int .i64 0, .int .i64 0, .slice none 0 0, .int .i64 0, .int .i64 0, .int .i64 0, .int .i64 0, .int .i64 0, .slice none 0 0] 28)
 go_enter Tryz.func12, Tryz.ntmps12
 go_wp2_with fail
 refine (s_l28One code _ _ (hr.ext hx0) hu hl).mono ?_
 rintro e w1 ⟨g, lo1, v1, v2, u0, u1, t, x, r, inn, rfl, TK, hxb, RA, RL, R0, R1, hgl, hglo, hc1, hn1⟩
 have hgw := hc1.lt
 have s : DSt g cv code w1 w1 := ⟨hc1, Chg.refl _ _, hc1⟩
 have B2 := Ext.block hn1 HB.1
 have B3 := Ext.block hn1 HB.2
 have hgr : (w.heap.size + 1) < g := by simp at hgl; omega
 clear HB
 have g_RA : g < lo1 := hglo
 have u_RA : w1.heap.size ≤ w1.heap.size := Nat.le_refl _
 have lt_B2_RA : w.heap.size < lo1 := by omega
 have lt_B3_RA : (w.heap.size + 1) < lo1 := by omega
 have g_RL : g < lo1 := hglo
 have u_RL : w1.heap.size ≤ w1.heap.size := Nat.le_refl _
 have lt_B2_RL : w.heap.size < lo1 := by omega
 have lt_B3_RL : (w.heap.size + 1) < lo1 := by omega
 have g_R0 : g < lo1 := hglo
 have u_R0 : w1.heap.size ≤ w1.heap.size := Nat.le_refl _
 have lt_B2_R0 : w.heap.size < lo1 := by omega
 have lt_B3_R0 : (w.heap.size + 1) < lo1 := by omega
 have g_R1 : g < lo1 := hglo
 have u_R1 : w1.heap.size ≤ w1.heap.size := Nat.le_refl _
 have lt_B2_R1 : w.heap.size < lo1 := by omega
 have lt_B3_R1 : (w.heap.size + 1) < lo1 := by omega
 obtain ⟨o1, c1, rfl, _⟩ := RdS.shape (Own.rd _ RA)
 obtain ⟨o2, c2, rfl, _⟩ := RdS.shape (Own.rd _ RL)
 obtain ⟨o_0, c_0, rfl, _⟩ := RdS.shape (Own.rd _ R0)
 obtain ⟨o_1, c_1, rfl, _⟩ := RdS.shape (Own.rd _ R1)
 clear hc1
 have cb_B2 := blk2 B2
 have cb_B3 := blk10 B3
 go_upto_region 2 with (fail)
 clear cb_B2 cb_B3
 have hxa := ext2 w1 (.cells #[.slice o1 t.ases.length c1, .slice o2 t.links.length c2] 33) (.cells #[.int .i64 x.kind, .int .i64 x.src, .int .i64 x.dst, .slice o_0 x.path.parts.length c_0, .int .i64 x.pi, .int .i64 x.hi, .int .i64 x.beta, .int .i64 x.rid, .int .i64 x.seq, .slice o_1 x.pay.length c_1] 28)
 have BB := al2 w1 (.cells #[.slice o1 t.ases.length c1, .slice o2 t.links.length c2] 33) (.cells #[.int .i64 x.kind, .int .i64 x.src, .int .i64 x.dst, .slice o_0 x.path.parts.length c_0, .int .i64 x.pi, .int .i64 x.hi, .int .i64 x.beta, .int .i64 x.rid, .int .i64 x.seq, .slice o_1 x.pay.length c_1] 28)
 obtain ⟨b5, eb5⟩ : ∃ b, b = w1.heap.size := ⟨_, rfl⟩
 have ltw_b5 : w1.heap.size ≤ b5 := by rw [eb5]; exact s.x.size
 have lt_B2_b5 : w.heap.size < b5 := by rw [eb5]; exact blk_lt B2
 have lt_B3_b5 : (w.heap.size + 1) < b5 := by rw [eb5]; exact blk_lt B3
 have hb_RA_b5 : w1.heap.size ≤ b5 := by rw [eb5]; exact u_RA
 have hb_RL_b5 : w1.heap.size ≤ b5 := by rw [eb5]; exact u_RL
 have hb_R0_b5 : w1.heap.size ≤ b5 := by rw [eb5]; exact u_R0
 have hb_R1_b5 : w1.heap.size ≤ b5 := by rw [eb5]; exact u_R1
 replace B2 := Ext.block hxa B2
 replace B3 := Ext.block hxa B3
 replace RA := Own.ext RA hxa
 replace u_RA := Nat.le_trans u_RA hxa.size
 replace RL := Own.ext RL hxa
 replace u_RL := Nat.le_trans u_RL hxa.size
 replace R0 := Own.ext R0 hxa
 replace u_R0 := Nat.le_trans u_R0 hxa.size
 replace R1 := Own.ext R1 hxa
 replace u_R1 := Nat.le_trans u_R1 hxa.size
 replace s := s.ext hxa
 have B5 := BB.1
 have B6 := BB.2
 rw [← eb5] at B5 B6
 rw [← eb5]
 clear hxa BB
 generalize ((w1.alloc (.cells #[.slice o1 t.ases.length c1, .slice o2 t.links.length c2] 33)).alloc (.cells #[.int .i64 x.kind, .int .i64 x.src, .int .i64 x.dst, .slice o_0 x.path.parts.length c_0, .int .i64 x.pi, .int .i64 x.hi, .int .i64 x.beta, .int .i64 x.rid, .int .i64 x.seq, .slice o_1 x.pay.length c_1] 28)) = wa at B2 B3 B5 B6 RA RL R0 R1 u_RA u_RL u_R0 u_R1 s ⊢
 clear eb5
 have cb_B2 := blk2 B2
 have cb_B3 := blk10 B3
 have cb_B5 := blk2 B5
 have cb_B6 := blk10 B6
 go_wp2_with fail
 clear cb_B2 cb_B3 cb_B5 cb_B6
 refine (s_l1Once g (6) _ _ _ s.c).mono ?_
 rintro e w2 ⟨b1, rfl, hcq, hzq⟩
 replace B2 := hzq.blkS B2 (by unfold at1; omega)
 replace B3 := hzq.blkS B3 (by unfold at1; omega)
 replace B5 := hzq.blkS B5 (by unfold at1; omega)
 replace B6 := hzq.blkS B6 (by unfold at1; omega)
 replace RA := Own.at1g RA hzq (.inl g_RA)
 replace u_RA := Nat.le_trans u_RA hzq.size
 replace RL := Own.at1g RL hzq (.inl g_RL)
 replace u_RL := Nat.le_trans u_RL hzq.size
 replace R0 := Own.at1g R0 hzq (.inl g_R0)
 replace u_R0 := Nat.le_trans u_R0 hzq.size
 replace R1 := Own.at1g R1 hzq (.inl g_R1)
 replace u_R1 := Nat.le_trans u_R1 hzq.size
 replace s := s.draw hcq hzq
 clear hzq hcq
 have cb_B2 := blk2 B2
 have cb_B3 := blk10 B3
 have cb_B5 := blk2 B5
 have cb_B6 := blk10 B6
 go_upto_if 18 with (fail)
 clear cb_B2 cb_B3 cb_B5 cb_B6
 go_cut [] (fun  wx => ∃ (be : Int), wx.heap[w.heap.size]? = some (.cells #[.slice none 0 0, .slice none 0 0] 33 (0, 0)) ∧ wx.heap[(w.heap.size + 1)]? = some (.cells #[.int .i64 0, .int .i64 0, .int .i64 0, .slice none 0 0, .int .i64 0, .int .i64 0, .int .i64 0, .int .i64 0, .int .i64 0, .slice none 0 0] 28 (0, 0)) ∧ wx.heap[b5]? = some (.cells #[.slice o1 t.ases.length c1, .slice o2 t.links.length c2] 33 (0, 0)) ∧ wx.heap[(b5 + 1)]? = some (.cells #[.int .i64 x.kind, .int .i64 x.src, .int .i64 x.dst, .slice o_0 x.path.parts.length c_0, .int .i64 x.pi, .int .i64 x.hi, .int .i64 be, .int .i64 x.rid, .int .i64 x.seq, .slice o_1 x.pay.length c_1] 28 (0, 0)) ∧ ((Own.keep ASd.rep).own (rng lo1 w1.heap.size) wx (.slice o1 t.ases.length c1) t.ases ∧ w1.heap.size ≤ wx.heap.size) ∧ ((Own.keep Lnk.rep).own (rng lo1 w1.heap.size) wx (.slice o2 t.links.length c2) t.links ∧ w1.heap.size ≤ wx.heap.size) ∧ ((Own.keep Part.rep).own (rng lo1 w1.heap.size) wx (.slice o_0 x.path.parts.length c_0) x.path.parts ∧ w1.heap.size ≤ wx.heap.size) ∧ ((Own.keep Rep.byte).own (rng lo1 w1.heap.size) wx (.slice o_1 x.pay.length c_1) x.pay ∧ w1.heap.size ≤ wx.heap.size) ∧ Cur g cv code wx ∧ Chg (at1 g) w1 wx)
 case first =>
  cases b1
  case false =>
   go_wp2_with fail
   go_meet
   exact ⟨x.beta, B2, B3, B5, B6, ⟨RA, u_RA⟩, ⟨RL, u_RL⟩, ⟨R0, u_R0⟩, ⟨R1, u_R1⟩, s.c, s.x⟩
  case true =>
   have cb_B2 := blk2 B2
   have cb_B3 := blk10 B3
   have cb_B5 := blk2 B5
   have cb_B6 := blk10 B6
   go_wp2_with fail
   clear cb_B2 cb_B3 cb_B5 cb_B6
   refine (s_l3Word g _ _ _ s.c).mono ?_
   rintro e w3 ⟨be, rfl, hbe0, hbe1, hcq, hzq⟩
   replace B2 := hzq.blkS B2 (by unfold at1; omega)
   replace B3 := hzq.blkS B3 (by unfold at1; omega)
   replace B5 := hzq.blkS B5 (by unfold at1; omega)
   replace B6 := hzq.blkS B6 (by unfold at1; omega)
   replace RA := Own.at1g RA hzq (.inl g_RA)
   replace u_RA := Nat.le_trans u_RA hzq.size
   replace RL := Own.at1g RL hzq (.inl g_RL)
   replace u_RL := Nat.le_trans u_RL hzq.size
   replace R0 := Own.at1g R0 hzq (.inl g_R0)
   replace u_R0 := Nat.le_trans u_R0 hzq.size
   replace R1 := Own.at1g R1 hzq (.inl g_R1)
   replace u_R1 := Nat.le_trans u_R1 hzq.size
   replace s := s.draw hcq hzq
   clear hzq hcq
   obtain ⟨wpn, hwn, hbn, hcn⟩ := one_set B6 6 (.int .i64 be)
   simp only [List.setIfInBounds_toArray, List.set_cons_succ, List.set_cons_zero] at hbn
   have HWn := Lib.hid hwn
   clear hwn
   have ff0 := fr_of B6 0
   have ff1 := fr_of B6 1
   have ff2 := fr_of B6 2
   have ff3 := fr_of B6 3
   have ff4 := fr_of B6 4
   have ff5 := fr_of B6 5
   have ff6 := fr_of B6 6
   have ff7 := fr_of B6 7
   have ff8 := fr_of B6 8
   have ff9 := fr_of B6 9
   have cb_B2 := blk2 B2
   have cb_B3 := blk10 B3
   have cb_B5 := blk2 B5
   have cb_B6 := blk10 B6
   go_wp2_with fail
   clear cb_B2 cb_B3 cb_B5 cb_B6
   rw [← HWn.out]
   clear HWn ff0 ff1 ff2 ff3 ff4 ff5 ff6 ff7 ff8 ff9
   replace RA := Own.at1g RA hcn (by omega)
   replace u_RA := Nat.le_trans u_RA hcn.size
   replace RL := Own.at1g RL hcn (by omega)
   replace u_RL := Nat.le_trans u_RL hcn.size
   replace R0 := Own.at1g R0 hcn (by omega)
   replace u_R0 := Nat.le_trans u_R0 hcn.size
   replace R1 := Own.at1g R1 hcn (by omega)
   replace u_R1 := Nat.le_trans u_R1 hcn.size
   replace B2 := hcn.blkS B2 (by unfold at1; omega)
   replace B3 := hcn.blkS B3 (by unfold at1; omega)
   replace B5 := hcn.blkS B5 (by unfold at1; omega)
   replace B6 := hbn
   clear hbn
   replace s := s.put hcn (fun i hi => by have h1 : i = (b5 + 1) := hi; omega)
   try clear hcn
   go_wp2_with fail
   go_meet
   exact ⟨be, B2, B3, B5, B6, ⟨RA, u_RA⟩, ⟨RL, u_RL⟩, ⟨R0, u_R0⟩, ⟨R1, u_R1⟩, s.c, s.x⟩
 case rest =>
  have hc0z := s.c0
  clear s B2 B3 B5 B6 RA RL R0 R1 u_RA u_RL u_R0 u_R1
  obtain ⟨be, B2, B3, B5, B6, ⟨RA, u_RA⟩, ⟨RL, u_RL⟩, ⟨R0, u_R0⟩, ⟨R1, u_R1⟩, hcC, hcX⟩ := hcut
  obtain ⟨wz1, hwz⟩ : ∃ wz : World, wz = wc := ⟨_, rfl⟩
  subst hwz
  have s : DSt g cv code w1 wz1 := ⟨hcC, hcX, hc0z⟩
  clear hcC hcX hc0z
  obtain ⟨y, hy⟩ : ∃ y : Pkt, y = { x with beta := be } := ⟨_, rfl⟩
  have hyb : PktBd y := by rw [hy]; exact ⟨hxb.parts, hxb.hops, hxb.pay, hxb.u8⟩
  have HY := Lib.hid hy
  clear hy
  have cb_B2 := blk2 B2
  have cb_B3 := blk10 B3
  have cb_B5 := blk2 B5
  have cb_B6 := blk10 B6
  go_upto_region 4 with (fail)
  clear cb_B2 cb_B3 cb_B5 cb_B6
  refine wp_region_fin (fun k => k = w.heap.size ∨ k = w.heap.size + 1) [([0, 1], 2), ([], 3)] [] [] (by kernel_rfl) (by kernel_rfl) (by kernel_rfl) ?_
  have ch_B5 := blk2 B5
  have q0 := ChgSW.cell (S := fun k => k = w.heap.size ∨ k = w.heap.size + 1) (ch_B5.1) (by first | (unfold at1; simp only; omega) | (simp only; omega))
  have q1 := ChgSW.cell (S := fun k => k = w.heap.size ∨ k = w.heap.size + 1) (ch_B5.2) (by first | (unfold at1; simp only; omega) | (simp only; omega))
  clear ch_B5
  have ch_B6 := blk10 B6
  have q2 := ChgSW.cell (S := fun k => k = w.heap.size ∨ k = w.heap.size + 1) (ch_B6.1) (by first | (unfold at1; simp only; omega) | (simp only; omega))
  have q3 := ChgSW.cell (S := fun k => k = w.heap.size ∨ k = w.heap.size + 1) (ch_B6.2.1) (by first | (unfold at1; simp only; omega) | (simp only; omega))
  have q4 := ChgSW.cell (S := fun k => k = w.heap.size ∨ k = w.heap.size + 1) (ch_B6.2.2.1) (by first | (unfold at1; simp only; omega) | (simp only; omega))
  have q5 := ChgSW.cell (S := fun k => k = w.heap.size ∨ k = w.heap.size + 1) (ch_B6.2.2.2.1) (by first | (unfold at1; simp only; omega) | (simp only; omega))
  have q6 := ChgSW.cell (S := fun k => k = w.heap.size ∨ k = w.heap.size + 1) (ch_B6.2.2.2.2.1) (by first | (unfold at1; simp only; omega) | (simp only; omega))
  have q7 := ChgSW.cell (S := fun k => k = w.heap.size ∨ k = w.heap.size + 1) (ch_B6.2.2.2.2.2.1) (by first | (unfold at1; simp only; omega) | (simp only; omega))
  have q8 := ChgSW.cell (S := fun k => k = w.heap.size ∨ k = w.heap.size + 1) (ch_B6.2.2.2.2.2.2.1) (by first | (unfold at1; simp only; omega) | (simp only; omega))
  have q9 := ChgSW.cell (S := fun k => k = w.heap.size ∨ k = w.heap.size + 1) (ch_B6.2.2.2.2.2.2.2.1) (by first | (unfold at1; simp only; omega) | (simp only; omega))
  have q10 := ChgSW.cell (S := fun k => k = w.heap.size ∨ k = w.heap.size + 1) (ch_B6.2.2.2.2.2.2.2.2.1) (by first | (unfold at1; simp only; omega) | (simp only; omega))
  have q11 := ChgSW.cell (S := fun k => k = w.heap.size ∨ k = w.heap.size + 1) (ch_B6.2.2.2.2.2.2.2.2.2) (by first | (unfold at1; simp only; omega) | (simp only; omega))
  clear ch_B6
  simp only [wpBlocksX, pickOps, PK]
  have hch : Chg (fun k => k = w.heap.size ∨ k = w.heap.size + 1) wz1 wz1.drew := Chg.ofExt (Ext.refl wz1).drew
  replace B2 := Ext.block ((Ext.refl wz1).drew) B2
  replace B3 := Ext.block ((Ext.refl wz1).drew) B3
  replace B5 := Ext.block ((Ext.refl wz1).drew) B5
  replace B6 := Ext.block ((Ext.refl wz1).drew) B6
  replace RA := Own.ext RA ((Ext.refl wz1).drew)
  replace u_RA := Nat.le_trans u_RA ((Ext.refl wz1).drew).size
  replace RL := Own.ext RL ((Ext.refl wz1).drew)
  replace u_RL := Nat.le_trans u_RL ((Ext.refl wz1).drew).size
  replace R0 := Own.ext R0 ((Ext.refl wz1).drew)
  replace u_R0 := Nat.le_trans u_R0 ((Ext.refl wz1).drew).size
  replace R1 := Own.ext R1 ((Ext.refl wz1).drew)
  replace u_R1 := Nat.le_trans u_R1 ((Ext.refl wz1).drew).size
  replace s := s.ext ((Ext.refl wz1).drew)
  obtain ⟨wt, hnw⟩ : ∃ wn, wn = wz1.drew := ⟨_, rfl⟩
  rw [← hnw] at B2 B3 B5 B6 RA RL R0 R1 u_RA u_RL u_R0 u_R1 s hch ⊢
  clear hnw
  repeat (first | go_big_quiet_step (fail) | quiet_step (fail))
  refine wpQuiet_nil ?_
  have hxe := hx0.trans (hn1.ofCur s.x hgl)
  obtain ⟨wpa, hwa, hba, hca⟩ := two_set B2 (.slice o1 t.ases.length c1) (.slice o2 t.links.length c2)
  have HWa := Lib.hid hwa
  clear hwa
  have ff0 := fr_of B2 0
  have ff1 := fr_of B2 1
  have cb := blk2 B2
  go_wp2_with fail
  rw [← HWa.out]
  clear HWa cb ff0 ff1
  replace hch := hch.trans (hca.mono (fun b h => .inl h))
  refine ⟨⟨⟨_, hch⟩, rfl⟩, ?_⟩
  replace RA := Own.at1g RA hca (by omega)
  replace u_RA := Nat.le_trans u_RA hca.size
  replace RL := Own.at1g RL hca (by omega)
  replace u_RL := Nat.le_trans u_RL hca.size
  replace R0 := Own.at1g R0 hca (by omega)
  replace u_R0 := Nat.le_trans u_R0 hca.size
  replace R1 := Own.at1g R1 hca (by omega)
  replace u_R1 := Nat.le_trans u_R1 hca.size
  replace B3 := hca.blkS B3 (by unfold at1; omega)
  replace B5 := hca.blkS B5 (by unfold at1; omega)
  replace B6 := hca.blkS B6 (by unfold at1; omega)
  replace B2 := hba
  clear hba
  replace hxe := hxe.chg hca (fun i hi => by have h1 : i = w.heap.size := hi; omega)
  try clear hca
  repeat (first | go_big_quiet_step (fail) | quiet_step (fail))
  refine wpQuiet_nil ?_
  obtain ⟨wpb, hwb, hbb, hcb⟩ := ten_set B3 (.int .i64 x.kind) (.int .i64 x.src) (.int .i64 x.dst) (.slice o_0 x.path.parts.length c_0) (.int .i64 x.pi) (.int .i64 x.hi) (.int .i64 be) (.int .i64 x.rid) (.int .i64 x.seq) (.slice o_1 x.pay.length c_1)
  have HWb := Lib.hid hwb
  clear hwb
  have ff0 := fr_of B3 0
  have ff1 := fr_of B3 1
  have ff2 := fr_of B3 2
  have ff3 := fr_of B3 3
  have ff4 := fr_of B3 4
  have ff5 := fr_of B3 5
  have ff6 := fr_of B3 6
  have ff7 := fr_of B3 7
  have ff8 := fr_of B3 8
  have ff9 := fr_of B3 9
  have cb := blk10 B3
  go_wp2_with fail
  rw [← HWb.out]
  clear HWb cb ff0 ff1 ff2 ff3 ff4 ff5 ff6 ff7 ff8 ff9
  replace hch := hch.trans (hcb.mono (fun b h => .inr h))
  refine ⟨⟨⟨_, hch⟩, rfl⟩, ?_⟩
  replace RA := Own.at1g RA hcb (by omega)
  replace u_RA := Nat.le_trans u_RA hcb.size
  replace RL := Own.at1g RL hcb (by omega)
  replace u_RL := Nat.le_trans u_RL hcb.size
  replace R0 := Own.at1g R0 hcb (by omega)
  replace u_R0 := Nat.le_trans u_R0 hcb.size
  replace R1 := Own.at1g R1 hcb (by omega)
  replace u_R1 := Nat.le_trans u_R1 hcb.size
  replace B2 := hcb.blkS B2 (by unfold at1; omega)
  replace B5 := hcb.blkS B5 (by unfold at1; omega)
  replace B6 := hcb.blkS B6 (by unfold at1; omega)
  replace B3 := hbb
  clear hbb
  replace hxe := hxe.chg hcb (fun i hi => by have h1 : i = (w.heap.size + 1) := hi; omega)
  try clear hcb
  repeat (first | go_big_quiet_step (fail) | quiet_step (fail))
  refine wpQuiet_nil ?_
  refine NoPanic.normal ?_
  clear hch q0 q1 q2 q3 q4 q5 q6 q7 q8 q9 q10 q11
  have cr_B2 := blk2 B2
  have cr_B3 := blk10 B3
  have cr_B5 := blk2 B5
  have cr_B6 := blk10 B6
  have hwb := (hx0.trans hn1).size
  go_wp2_with fail
  refine bodyPost_ret (v := .tuple #[.agg #[.slice o1 t.ases.length c1, .slice o2 t.links.length c2], .agg #[.int .i64 x.kind, .int .i64 x.src, .int .i64 x.dst, .slice o_0 x.path.parts.length c_0, .int .i64 x.pi, .int .i64 x.hi, .int .i64 be, .int .i64 x.rid, .int .i64 x.seq, .slice o_1 x.pay.length c_1]]) (by simp [results, Tryz.results12, go_sem, cr_B2, cr_B3]) rfl ?_
  exact ⟨_, _, _, _, t, y, (by rw [HY.out]), TK, hyb, (Own.upTo (Own.lo RA (by omega)) (Nat.le_refl _)), (Own.upTo (Own.lo RL (by omega)) (Nat.le_refl _)), by rw [HY.out]; exact (Own.upTo (Own.lo R0 (by omega)) (Nat.le_refl _)), by rw [HY.out]; exact (Own.upTo (Own.lo R1 (by omega)) (Nat.le_refl _)), hxe⟩
set_option maxRecDepth 100000 in
set_option maxHeartbeats 40000000 in
theorem s_DrawCurrentHopValid (code : List Int) (cv : Value) (w : World) (hr : RdS Rep.byte w cv code) (hu : ∀ x ∈ code, U8 x) (hl : code.length ≤ 1048576) :
  Calls Tryz.prog 15 #[cv] w fun e w' => ∃ (u0 u1 : Value) (x : Pkt) (n : Int), e = .returned (.tuple #[.agg #[.int .i64 x.kind, .int .i64 x.src, .int .i64 x.dst, u0, .int .i64 x.pi, .int .i64 x.hi, .int .i64 x.beta, .int .i64 x.rid, .int .i64 x.seq, u1], .int .i64 n]) ∧ PktBd x ∧ (Own.keep Part.rep).own (rng w.heap.size w'.heap.size) w' u0 x.path.parts ∧ (Own.keep Rep.byte).own (rng w.heap.size w'.heap.size) w' u1 x.pay ∧ Ext w w' := by
 have hx0 : Ext w (w.alloc (.cells #[.int .i64 0, .int .i64 0, .int .i64 0, .slice none 0 0, .int .i64 0, .int .i64 0, .int .i64 0, .int .i64 0, .int .i64 0, .slice none 0 0] 28)) := (Ext.refl _).alloc _
 have HB := blk_new w (.cells #[.int .i64 0, .int .i64 0, .int .i64 0, .slice none 0 0, .int .i64 0, .int .i64 0, .int .i64 0, .int .i64 0, .int .i64 0, .slice none 0 0] 28)
 go_enter Tryz.func15, Tryz.ntmps15
 go_wp2_with fail
 refine (s_l28One code _ _ (hr.ext hx0) hu hl).mono ?_
 rintro e w1 ⟨g, lo1, v1, v2, u0, u1, t, x, r, inn, rfl, TK, hxb, RA, RL, R0, R1, hgl, hglo, hc1, hn1⟩
 have hgw := hc1.lt
 have s : DSt g cv code w1 w1 := ⟨hc1, Chg.refl _ _, hc1⟩
 have B2 := Ext.block hn1 HB
 have hgr : w.heap.size < g := by simp at hgl; omega
 clear HB
 have g_RA : g < lo1 := hglo
 have u_RA : w1.heap.size ≤ w1.heap.size := Nat.le_refl _
 have lt_B2_RA : w.heap.size < lo1 := by omega
 have g_RL : g < lo1 := hglo
 have u_RL : w1.heap.size ≤ w1.heap.size := Nat.le_refl _
 have lt_B2_RL : w.heap.size < lo1 := by omega
 have g_R0 : g < lo1 := hglo
 have u_R0 : w1.heap.size ≤ w1.heap.size := Nat.le_refl _
 have lt_B2_R0 : w.heap.size < lo1 := by omega
 have g_R1 : g < lo1 := hglo
 have u_R1 : w1.heap.size ≤ w1.heap.size := Nat.le_refl _
 have lt_B2_R1 : w.heap.size < lo1 := by omega
 obtain ⟨o1, c1, rfl, _⟩ := RdS.shape (Own.rd _ RA)
 obtain ⟨o2, c2, rfl, _⟩ := RdS.shape (Own.rd _ RL)
 obtain ⟨o_0, c_0, rfl, _⟩ := RdS.shape (Own.rd _ R0)
 obtain ⟨o_1, c_1, rfl, _⟩ := RdS.shape (Own.rd _ R1)
 clear hc1
 have cb_B2 := blk10 B2
 go_upto_region 2 with (fail)
 clear cb_B2
 have hxa := ext2 w1 (.cells #[.slice o1 t.ases.length c1, .slice o2 t.links.length c2] 33) (.cells #[.int .i64 x.kind, .int .i64 x.src, .int .i64 x.dst, .slice o_0 x.path.parts.length c_0, .int .i64 x.pi, .int .i64 x.hi, .int .i64 x.beta, .int .i64 x.rid, .int .i64 x.seq, .slice o_1 x.pay.length c_1] 28)
 have BB := al2 w1 (.cells #[.slice o1 t.ases.length c1, .slice o2 t.links.length c2] 33) (.cells #[.int .i64 x.kind, .int .i64 x.src, .int .i64 x.dst, .slice o_0 x.path.parts.length c_0, .int .i64 x.pi, .int .i64 x.hi, .int .i64 x.beta, .int .i64 x.rid, .int .i64 x.seq, .slice o_1 x.pay.length c_1] 28)
 obtain ⟨b5, eb5⟩ : ∃ b, b = w1.heap.size := ⟨_, rfl⟩
 have ltw_b5 : w1.heap.size ≤ b5 := by rw [eb5]; exact s.x.size
 have lt_B2_b5 : w.heap.size < b5 := by rw [eb5]; exact blk_lt B2
 have hb_RA_b5 : w1.heap.size ≤ b5 := by rw [eb5]; exact u_RA
 have hb_RL_b5 : w1.heap.size ≤ b5 := by rw [eb5]; exact u_RL
 have hb_R0_b5 : w1.heap.size ≤ b5 := by rw [eb5]; exact u_R0
 have hb_R1_b5 : w1.heap.size ≤ b5 := by rw [eb5]; exact u_R1
 replace B2 := Ext.block hxa B2
 replace RA := Own.ext RA hxa
 replace u_RA := Nat.le_trans u_RA hxa.size
 replace RL := Own.ext RL hxa
 replace u_RL := Nat.le_trans u_RL hxa.size
 replace R0 := Own.ext R0 hxa
 replace u_R0 := Nat.le_trans u_R0 hxa.size
 replace R1 := Own.ext R1 hxa
 replace u_R1 := Nat.le_trans u_R1 hxa.size
 replace s := s.ext hxa
 have B5 := BB.1
 have B6 := BB.2
 rw [← eb5] at B5 B6
 rw [← eb5]
 clear hxa BB
 generalize ((w1.alloc (.cells #[.slice o1 t.ases.length c1, .slice o2 t.links.length c2] 33)).alloc (.cells #[.int .i64 x.kind, .int .i64 x.src, .int .i64 x.dst, .slice o_0 x.path.parts.length c_0, .int .i64 x.pi, .int .i64 x.hi, .int .i64 x.beta, .int .i64 x.rid, .int .i64 x.seq, .slice o_1 x.pay.length c_1] 28)) = wa at B2 B5 B6 RA RL R0 R1 u_RA u_RL u_R0 u_R1 s ⊢
 clear eb5
 refine wp_region_fin (fun k => k = g ∨ k = w.heap.size) [([0, 1], 2), ([3], 4)] [5] [] (by kernel_rfl) (by kernel_rfl) (by kernel_rfl) ?_
 have ch_B6 := blk10 B6
 have q0 := ChgSW.cell (S := fun k => k = g ∨ k = w.heap.size) (ch_B6.1) (by first | (unfold at1; simp only; omega) | (simp only; omega))
 have q1 := ChgSW.cell (S := fun k => k = g ∨ k = w.heap.size) (ch_B6.2.1) (by first | (unfold at1; simp only; omega) | (simp only; omega))
 have q2 := ChgSW.cell (S := fun k => k = g ∨ k = w.heap.size) (ch_B6.2.2.1) (by first | (unfold at1; simp only; omega) | (simp only; omega))
 have q3 := ChgSW.cell (S := fun k => k = g ∨ k = w.heap.size) (ch_B6.2.2.2.1) (by first | (unfold at1; simp only; omega) | (simp only; omega))
 have q4 := ChgSW.cell (S := fun k => k = g ∨ k = w.heap.size) (ch_B6.2.2.2.2.1) (by first | (unfold at1; simp only; omega) | (simp only; omega))
 have q5 := ChgSW.cell (S := fun k => k = g ∨ k = w.heap.size) (ch_B6.2.2.2.2.2.1) (by first | (unfold at1; simp only; omega) | (simp only; omega))
 have q6 := ChgSW.cell (S := fun k => k = g ∨ k = w.heap.size) (ch_B6.2.2.2.2.2.2.1) (by first | (unfold at1; simp only; omega) | (simp only; omega))
 have q7 := ChgSW.cell (S := fun k => k = g ∨ k = w.heap.size) (ch_B6.2.2.2.2.2.2.2.1) (by first | (unfold at1; simp only; omega) | (simp only; omega))
 have q8 := ChgSW.cell (S := fun k => k = g ∨ k = w.heap.size) (ch_B6.2.2.2.2.2.2.2.2.1) (by first | (unfold at1; simp only; omega) | (simp only; omega))
 have q9 := ChgSW.cell (S := fun k => k = g ∨ k = w.heap.size) (ch_B6.2.2.2.2.2.2.2.2.2) (by first | (unfold at1; simp only; omega) | (simp only; omega))
 clear ch_B6
 simp only [wpBlocksX, pickOps, PK]
 have hch : Chg (fun k => k = g ∨ k = w.heap.size) wa wa.drew := Chg.ofExt (Ext.refl wa).drew
 replace B2 := Ext.block ((Ext.refl wa).drew) B2
 replace B5 := Ext.block ((Ext.refl wa).drew) B5
 replace B6 := Ext.block ((Ext.refl wa).drew) B6
 replace RA := Own.ext RA ((Ext.refl wa).drew)
 replace u_RA := Nat.le_trans u_RA ((Ext.refl wa).drew).size
 replace RL := Own.ext RL ((Ext.refl wa).drew)
 replace u_RL := Nat.le_trans u_RL ((Ext.refl wa).drew).size
 replace R0 := Own.ext R0 ((Ext.refl wa).drew)
 replace u_R0 := Nat.le_trans u_R0 ((Ext.refl wa).drew).size
 replace R1 := Own.ext R1 ((Ext.refl wa).drew)
 replace u_R1 := Nat.le_trans u_R1 ((Ext.refl wa).drew).size
 replace s := s.ext ((Ext.refl wa).drew)
 obtain ⟨wt, hnw⟩ : ∃ wn, wn = wa.drew := ⟨_, rfl⟩
 rw [← hnw] at B2 B5 B6 RA RL R0 R1 u_RA u_RL u_R0 u_R1 s hch ⊢
 clear hnw
 repeat (first | go_big_quiet_step (fail) | quiet_step (fail))
 refine wpQuiet_nil ?_
 go_wp2_with fail
 refine (s_l1Below g (90) _ _ _ s.c).mono ?_
 rintro e w2 ⟨nw, rfl, hn0, hn1b, hcq, hzq⟩
 replace B2 := hzq.blkS B2 (by unfold at1; omega)
 replace B5 := hzq.blkS B5 (by unfold at1; omega)
 replace B6 := hzq.blkS B6 (by unfold at1; omega)
 replace RA := Own.at1g RA hzq (.inl g_RA)
 replace u_RA := Nat.le_trans u_RA hzq.size
 replace RL := Own.at1g RL hzq (.inl g_RL)
 replace u_RL := Nat.le_trans u_RL hzq.size
 replace R0 := Own.at1g R0 hzq (.inl g_R0)
 replace u_R0 := Nat.le_trans u_R0 hzq.size
 replace R1 := Own.at1g R1 hzq (.inl g_R1)
 replace u_R1 := Nat.le_trans u_R1 hzq.size
 replace s := s.draw hcq hzq
 replace hch := hch.trans (hzq.mono (fun b h => .inl h))
 clear hzq hcq
 go_wp2_with fail
 refine ⟨⟨⟨_, hch⟩, rfl⟩, ?_⟩
 repeat (first | go_big_quiet_step (fail) | quiet_step (fail))
 refine wpQuiet_nil ?_
 have hxe := hx0.trans (hn1.ofCur s.x hgl)
 obtain ⟨wpa, hwa, hba, hca⟩ := ten_set B2 (.int .i64 x.kind) (.int .i64 x.src) (.int .i64 x.dst) (.slice o_0 x.path.parts.length c_0) (.int .i64 x.pi) (.int .i64 x.hi) (.int .i64 x.beta) (.int .i64 x.rid) (.int .i64 x.seq) (.slice o_1 x.pay.length c_1)
 have HWa := Lib.hid hwa
 clear hwa
 have ff0 := fr_of B2 0
 have ff1 := fr_of B2 1
 have ff2 := fr_of B2 2
 have ff3 := fr_of B2 3
 have ff4 := fr_of B2 4
 have ff5 := fr_of B2 5
 have ff6 := fr_of B2 6
 have ff7 := fr_of B2 7
 have ff8 := fr_of B2 8
 have ff9 := fr_of B2 9
 have cb := blk10 B2
 go_wp2_with fail
 rw [← HWa.out]
 clear HWa cb ff0 ff1 ff2 ff3 ff4 ff5 ff6 ff7 ff8 ff9
 replace hch := hch.trans (hca.mono (fun b h => .inr h))
 refine ⟨⟨⟨_, hch⟩, rfl⟩, ?_⟩
 replace RA := Own.at1g RA hca (by omega)
 replace u_RA := Nat.le_trans u_RA hca.size
 replace RL := Own.at1g RL hca (by omega)
 replace u_RL := Nat.le_trans u_RL hca.size
 replace R0 := Own.at1g R0 hca (by omega)
 replace u_R0 := Nat.le_trans u_R0 hca.size
 replace R1 := Own.at1g R1 hca (by omega)
 replace u_R1 := Nat.le_trans u_R1 hca.size
 replace B5 := hca.blkS B5 (by unfold at1; omega)
 replace B6 := hca.blkS B6 (by unfold at1; omega)
 replace B2 := hba
 clear hba
 replace hxe := hxe.chg hca (fun i hi => by have h1 : i = w.heap.size := hi; omega)
 try clear hca
 repeat (first | go_big_quiet_step (fail) | quiet_step (fail))
 refine wpQuiet_nil ?_
 refine NoPanic.normal ?_
 clear hch q0 q1 q2 q3 q4 q5 q6 q7 q8 q9
 have cr_B2 := blk10 B2
 have cr_B5 := blk2 B5
 have cr_B6 := blk10 B6
 have hwb := (hx0.trans hn1).size
 go_wp2_with fail
 refine bodyPost_ret (v := .tuple #[.agg #[.int .i64 x.kind, .int .i64 x.src, .int .i64 x.dst, .slice o_0 x.path.parts.length c_0, .int .i64 x.pi, .int .i64 x.hi, .int .i64 x.beta, .int .i64 x.rid, .int .i64 x.seq, .slice o_1 x.pay.length c_1], .int .i64 (30 + nw)]) (by simp [results, Tryz.results15, go_sem, cr_B2]) rfl ?_
 exact ⟨_, _, x, 30 + nw, rfl, hxb, (Own.upTo (Own.lo R0 (by omega)) (Nat.le_refl _)), (Own.upTo (Own.lo R1 (by omega)) (Nat.le_refl _)), hxe⟩
end
end Go.Proofs.YtikbeiafobnblaaGreat
