/- What these laws need: FnForwards: The draws of the code: what is forwarded; two verdicts. -/
import Derived.Test.YtcpfmhgfaliemaaGreatKF29
namespace Go.Proofs.YtcpfmhgfaliemaaGreat
section
open Go.ChangeShapes Go.WideShapes Go.ChangeAt Go.RowKit Go.Deep
theorem fw_le7 (t : Topo) (r now dead inn : Int) (x : Pkt) : 0 ≤ (forward t r now dead inn x).code ∧ (forward t r now dead inn x).code ≤ 7 := by
 refine ⟨fw_nn t r now dead inn x, ?_⟩; have h := chkAll_code t now x.path.parts.length x; unfold forward; simp only
 repeat' split
 all_goals first | (dsimp only; omega) | decide
theorem pkt_set {w : World} {b : Nat} {x0 x1 x2 x3 x4 x5 x6 x7 x8 x9 x10 x11 : Value} {t : TypeId} (h : w.heap[b]? = some (.cells #[x0, x1, x2, x3, x4, x5, x6, x7, x8, x9, x10, x11] t (0, 0))) (y2 y3 y4 y5 y6 y7 y8 y9 y10 y11 : Value) :
  ∃ w5, w5 = (((((((((w.setCell ⟨b, 2, none⟩ y2).setCell ⟨b, 3, none⟩ y3).setCell ⟨b, 4, none⟩ y4).setCell ⟨b, 5, none⟩ y5).setCell ⟨b, 6, none⟩ y6).setCell ⟨b, 7, none⟩ y7).setCell ⟨b, 8, none⟩ y8).setCell ⟨b, 9, none⟩ y9).setCell ⟨b, 10, none⟩ y10).setCell ⟨b, 11, none⟩ y11 ∧ w5.heap[b]? = some (.cells #[x0, x1, y2, y3, y4, y5, y6, y7, y8, y9, y10, y11] t (0, 0)) ∧ Chg (at1 b) w w5 := by
 have q (o : Nat) (u : Value) {wq : World} (h : Chg (at1 b) w wq) := Chg.setC (S := at1 b) (p := ⟨b, o, none⟩) h rfl u; exact ⟨_, rfl, by simpa using blk_set (blk_set (blk_set (blk_set (blk_set (blk_set (blk_set (blk_set (blk_set (blk_set h 2 y2) 3 y3) 4 y4) 5 y5) 6 y6) 7 y7) 8 y8) 9 y9) 10 y10) 11 y11, q _ _ (q _ _ (q _ _ (q _ _ (q _ _ (q _ _ (q _ _ (q _ _ (q _ _ (q _ _ (Chg.refl _ _))))))))))⟩
set_option maxRecDepth 100000 in
set_option maxHeartbeats 40000000 in
theorem s_DrawForward (code : List Int) (cv : Value) (w : World) (hr : RdS Rep.byte w cv code) (hu : ∀ x ∈ code, U8 x) (hl : code.length ≤ 1048576) :
  Calls Tryz.prog 33 #[cv] w fun e w' => ∃ (v1 v2 u0 u1 : Value) (t : Topo) (r now dead inn : Int) (x : Pkt), e = .returned (.tuple #[.agg #[v1, v2], .int .i64 r, .int .i64 now, .int .i64 dead, .int .i64 inn, .agg #[.int .i64 x.kind, .int .i64 x.src, .int .i64 x.dst, u0, .int .i64 x.pi, .int .i64 x.hi, .int .i64 x.beta, .int .i64 x.rid, .int .i64 x.seq, u1]]) ∧ TopoOk t ∧ PktBd x ∧ (Own.keep ASd.rep).own (rng w.heap.size w'.heap.size) w' v1 t.ases ∧ (Own.keep Lnk.rep).own (rng w.heap.size w'.heap.size) w' v2 t.links ∧ (Own.keep Part.rep).own (rng w.heap.size w'.heap.size) w' u0 x.path.parts ∧ (Own.keep Rep.byte).own (rng w.heap.size w'.heap.size) w' u1 x.pay ∧ Ext w w' := by
 have hx0 := ext2 w (.cells #[.slice none 0 0, .slice none 0 0] 56) (.cells #[.int .i64 0, .int .i64 0, .int .i64 0, .slice none 0 0, .int .i64 0, .int .i64 0, .int .i64 0, .int .i64 0, .int .i64 0, .slice none 0 0] 58); have HB := al2 w (.cells #[.slice none 0 0, .slice none 0 0] 56) (.cells #[.int .i64 0, .int .i64 0, .int .i64 0, .slice none 0 0, .int .i64 0, .int .i64 0, .int .i64 0, .int .i64 0, .int .i64 0, .slice none 0 0] 58)
 go_enter Tryz.func33, Tryz.ntmps33
 go_wp2_with fail
 refine (s_l28One code _ _ (hr.ext hx0) hu hl).mono ?_; rintro e w1 ⟨g, lo1, v1, v2, u0, u1, t, x, r, inn, rfl, TK, hxb, RA, RL, R0, R1, hgl, hglo, hc1, hn1⟩; have hgw := hc1.lt
 have s : DSt g cv code w1 w1 := ⟨hc1, Chg.refl _ _, hc1⟩
 have B2 := Ext.block hn1 HB.1; have B7 := Ext.block hn1 HB.2; have hgr : (w.heap.size + 1) < g := by simp at hgl; omega
 clear HB; have g_RA : g < lo1 := hglo; have u_RA : w1.heap.size ≤ w1.heap.size := Nat.le_refl _; have lt_B2_RA : w.heap.size < lo1 := by omega
 have lt_B7_RA : (w.heap.size + 1) < lo1 := by omega
 have g_RL : g < lo1 := hglo; have u_RL : w1.heap.size ≤ w1.heap.size := Nat.le_refl _; have lt_B2_RL : w.heap.size < lo1 := by omega
 have lt_B7_RL : (w.heap.size + 1) < lo1 := by omega
 have g_R0 : g < lo1 := hglo; have u_R0 : w1.heap.size ≤ w1.heap.size := Nat.le_refl _; have lt_B2_R0 : w.heap.size < lo1 := by omega
 have lt_B7_R0 : (w.heap.size + 1) < lo1 := by omega
 have g_R1 : g < lo1 := hglo; have u_R1 : w1.heap.size ≤ w1.heap.size := Nat.le_refl _; have lt_B2_R1 : w.heap.size < lo1 := by omega
 have lt_B7_R1 : (w.heap.size + 1) < lo1 := by omega
 obtain ⟨o1, c1, rfl, _⟩ := RdS.shape (Own.rd _ RA); obtain ⟨o2, c2, rfl, _⟩ := RdS.shape (Own.rd _ RL); obtain ⟨o_0, c_0, rfl, _⟩ := RdS.shape (Own.rd _ R0); obtain ⟨o_1, c_1, rfl, _⟩ := RdS.shape (Own.rd _ R1); clear hc1; have cb_B2 := blk2 B2; have cb_B7 := blk10 B7
 go_upto_region 2 with (fail)
 clear cb_B2 cb_B7; have hxa := ext2 w1 (.cells #[.slice o1 t.ases.length c1, .slice o2 t.links.length c2] 56) (.cells #[.int .i64 x.kind, .int .i64 x.src, .int .i64 x.dst, .slice o_0 x.path.parts.length c_0, .int .i64 x.pi, .int .i64 x.hi, .int .i64 x.beta, .int .i64 x.rid, .int .i64 x.seq, .slice o_1 x.pay.length c_1] 58); have BB := al2 w1 (.cells #[.slice o1 t.ases.length c1, .slice o2 t.links.length c2] 56) (.cells #[.int .i64 x.kind, .int .i64 x.src, .int .i64 x.dst, .slice o_0 x.path.parts.length c_0, .int .i64 x.pi, .int .i64 x.hi, .int .i64 x.beta, .int .i64 x.rid, .int .i64 x.seq, .slice o_1 x.pay.length c_1] 58)
 obtain ⟨b9, eb9⟩ : ∃ b, b = w1.heap.size := ⟨_, rfl⟩
 have ltw_b9 : w1.heap.size ≤ b9 := by rw [eb9]; exact s.x.size
 have lt_B2_b9 : w.heap.size < b9 := by rw [eb9]; exact blk_lt B2
 have lt_B7_b9 : (w.heap.size + 1) < b9 := by rw [eb9]; exact blk_lt B7
 have hb_RA_b9 : w1.heap.size ≤ b9 := by rw [eb9]; exact u_RA
 have hb_RL_b9 : w1.heap.size ≤ b9 := by rw [eb9]; exact u_RL
 have hb_R0_b9 : w1.heap.size ≤ b9 := by rw [eb9]; exact u_R0
 have hb_R1_b9 : w1.heap.size ≤ b9 := by rw [eb9]; exact u_R1
 replace B2 := Ext.block hxa B2; replace B7 := Ext.block hxa B7; replace RA := Own.ext RA hxa; replace u_RA := Nat.le_trans u_RA hxa.size; replace RL := Own.ext RL hxa; replace u_RL := Nat.le_trans u_RL hxa.size; replace R0 := Own.ext R0 hxa; replace u_R0 := Nat.le_trans u_R0 hxa.size; replace R1 := Own.ext R1 hxa; replace u_R1 := Nat.le_trans u_R1 hxa.size; replace s := s.ext hxa; have B9 := BB.1; have B10 := BB.2; rw [← eb9] at B9 B10; rw [← eb9]; clear hxa BB; generalize ((w1.alloc (.cells #[.slice o1 t.ases.length c1, .slice o2 t.links.length c2] 56)).alloc (.cells #[.int .i64 x.kind, .int .i64 x.src, .int .i64 x.dst, .slice o_0 x.path.parts.length c_0, .int .i64 x.pi, .int .i64 x.hi, .int .i64 x.beta, .int .i64 x.rid, .int .i64 x.seq, .slice o_1 x.pay.length c_1] 58)) = wa at B2 B7 B9 B10 RA RL R0 R1 u_RA u_RL u_R0 u_R1 s ⊢
 clear eb9; have cb_B2 := blk2 B2; have cb_B7 := blk10 B7; have cb_B9 := blk2 B9; have cb_B10 := blk10 B10
 go_wp2_with fail
 clear cb_B2 cb_B7 cb_B9 cb_B10; refine (s_l1Below g (12) _ _ _ s.c).mono ?_; rintro e w2 ⟨q, rfl, hq0, hq1, hcq, hzq⟩; replace B2 := hzq.blkS B2 (by unfold at1; omega); replace B7 := hzq.blkS B7 (by unfold at1; omega); replace B9 := hzq.blkS B9 (by unfold at1; omega); replace B10 := hzq.blkS B10 (by unfold at1; omega); replace RA := Own.at1g RA hzq (.inl g_RA); replace u_RA := Nat.le_trans u_RA hzq.size; replace RL := Own.at1g RL hzq (.inl g_RL); replace u_RL := Nat.le_trans u_RL hzq.size; replace R0 := Own.at1g R0 hzq (.inl g_R0); replace u_R0 := Nat.le_trans u_R0 hzq.size; replace R1 := Own.at1g R1 hzq (.inl g_R1); replace u_R1 := Nat.le_trans u_R1 hzq.size; replace s := s.draw hcq hzq; clear hzq hcq; have cb_B2 := blk2 B2; have cb_B7 := blk10 B7; have cb_B9 := blk2 B9; have cb_B10 := blk10 B10
 go_upto_block 0 with fail
 clear cb_B2 cb_B7 cb_B9 cb_B10
 go_cut [11, 12, 13, 14] (fun v11 v12 v13 v14 wx => ∃ (y : Pkt) (rq : Int) (iq : Int) (nq : Int) (dq : Int), (v11 = .int .i64 rq) ∧ (v12 = .int .i64 iq) ∧ (v13 = .int .i64 nq) ∧ (v14 = .int .i64 dq) ∧ (Hid (y.path = x.path ∧ y.pay = x.pay)) ∧ wx.heap[w.heap.size]? = some (.cells #[.slice none 0 0, .slice none 0 0] 56 (0, 0)) ∧ wx.heap[(w.heap.size + 1)]? = some (.cells #[.int .i64 0, .int .i64 0, .int .i64 0, .slice none 0 0, .int .i64 0, .int .i64 0, .int .i64 0, .int .i64 0, .int .i64 0, .slice none 0 0] 58 (0, 0)) ∧ wx.heap[b9]? = some (.cells #[.slice o1 t.ases.length c1, .slice o2 t.links.length c2] 56 (0, 0)) ∧ wx.heap[(b9 + 1)]? = some (.cells #[.int .i64 y.kind, .int .i64 y.src, .int .i64 y.dst, .slice o_0 x.path.parts.length c_0, .int .i64 y.pi, .int .i64 y.hi, .int .i64 y.beta, .int .i64 y.rid, .int .i64 y.seq, .slice o_1 x.pay.length c_1] 58 (0, 0)) ∧ ((Own.keep ASd.rep).own (rng lo1 w1.heap.size) wx (.slice o1 t.ases.length c1) t.ases ∧ w1.heap.size ≤ wx.heap.size) ∧ ((Own.keep Lnk.rep).own (rng lo1 w1.heap.size) wx (.slice o2 t.links.length c2) t.links ∧ w1.heap.size ≤ wx.heap.size) ∧ ((Own.keep Part.rep).own (rng lo1 w1.heap.size) wx (.slice o_0 x.path.parts.length c_0) x.path.parts ∧ w1.heap.size ≤ wx.heap.size) ∧ ((Own.keep Rep.byte).own (rng lo1 w1.heap.size) wx (.slice o_1 x.pay.length c_1) x.pay ∧ w1.heap.size ≤ wx.heap.size) ∧ Cur g cv code wx ∧ Chg (at1 g) w1 wx)
 case first =>
  by_cases q0 : q = 0
  ·
   subst q0; have cb_B2 := blk2 B2; have cb_B7 := blk10 B7; have cb_B9 := blk2 B9; have cb_B10 := blk10 B10
   go_wp2_with fail
   clear cb_B2 cb_B7 cb_B9 cb_B10; refine (s_l1Below g (120) _ _ _ s.c).mono ?_; rintro e w3 ⟨z, rfl, hz0, hz1, hcq, hzq⟩; replace B2 := hzq.blkS B2 (by unfold at1; omega); replace B7 := hzq.blkS B7 (by unfold at1; omega); replace B9 := hzq.blkS B9 (by unfold at1; omega); replace B10 := hzq.blkS B10 (by unfold at1; omega); replace RA := Own.at1g RA hzq (.inl g_RA); replace u_RA := Nat.le_trans u_RA hzq.size; replace RL := Own.at1g RL hzq (.inl g_RL); replace u_RL := Nat.le_trans u_RL hzq.size; replace R0 := Own.at1g R0 hzq (.inl g_R0); replace u_R0 := Nat.le_trans u_R0 hzq.size; replace R1 := Own.at1g R1 hzq (.inl g_R1); replace u_R1 := Nat.le_trans u_R1 hzq.size; replace s := s.draw hcq hzq; clear hzq hcq
   go_wp2_with fail
   go_meet
   exact ⟨x, r, inn, z, 0, rfl, rfl, rfl, rfl, Lib.hid ⟨rfl, rfl⟩, B2, B7, B9, B10, ⟨RA, u_RA⟩, ⟨RL, u_RL⟩, ⟨R0, u_R0⟩, ⟨R1, u_R1⟩, s.c, s.x⟩
  ·
   have q0f : (q == 0) = false := by rw [beq_eq_false_iff_ne]; exact q0
   by_cases q1 : q = 1
   ·
    subst q1; have cb_B2 := blk2 B2; have cb_B7 := blk10 B7; have cb_B9 := blk2 B9; have cb_B10 := blk10 B10
    go_wp2_with fail
    clear cb_B2 cb_B7 cb_B9 cb_B10; refine (s_l1Below g (128) _ _ _ s.c).mono ?_; rintro e w3 ⟨z, rfl, hz0, hz1, hcq, hzq⟩; replace B2 := hzq.blkS B2 (by unfold at1; omega); replace B7 := hzq.blkS B7 (by unfold at1; omega); replace B9 := hzq.blkS B9 (by unfold at1; omega); replace B10 := hzq.blkS B10 (by unfold at1; omega); replace RA := Own.at1g RA hzq (.inl g_RA); replace u_RA := Nat.le_trans u_RA hzq.size; replace RL := Own.at1g RL hzq (.inl g_RL); replace u_RL := Nat.le_trans u_RL hzq.size; replace R0 := Own.at1g R0 hzq (.inl g_R0); replace u_R0 := Nat.le_trans u_R0 hzq.size; replace R1 := Own.at1g R1 hzq (.inl g_R1); replace u_R1 := Nat.le_trans u_R1 hzq.size; replace s := s.draw hcq hzq; clear hzq hcq
    go_wp2_with fail
    go_meet
    exact ⟨x, r, inn, 50, z, rfl, rfl, rfl, rfl, Lib.hid ⟨rfl, rfl⟩, B2, B7, B9, B10, ⟨RA, u_RA⟩, ⟨RL, u_RL⟩, ⟨R0, u_R0⟩, ⟨R1, u_R1⟩, s.c, s.x⟩
   ·
    have q1f : (q == 1) = false := by rw [beq_eq_false_iff_ne]; exact q1
    by_cases q2 : q = 2
    ·
     subst q2; have cb_B2 := blk2 B2; have cb_B7 := blk10 B7; have cb_B9 := blk2 B9; have cb_B10 := blk10 B10
     go_wp2_with fail
     clear cb_B2 cb_B7 cb_B9 cb_B10; refine (s_l1Below g (7) _ _ _ s.c).mono ?_; rintro e w3 ⟨z, rfl, hz0, hz1, hcq, hzq⟩; replace B2 := hzq.blkS B2 (by unfold at1; omega); replace B7 := hzq.blkS B7 (by unfold at1; omega); replace B9 := hzq.blkS B9 (by unfold at1; omega); replace B10 := hzq.blkS B10 (by unfold at1; omega); replace RA := Own.at1g RA hzq (.inl g_RA); replace u_RA := Nat.le_trans u_RA hzq.size; replace RL := Own.at1g RL hzq (.inl g_RL); replace u_RL := Nat.le_trans u_RL hzq.size; replace R0 := Own.at1g R0 hzq (.inl g_R0); replace u_R0 := Nat.le_trans u_R0 hzq.size; replace R1 := Own.at1g R1 hzq (.inl g_R1); replace u_R1 := Nat.le_trans u_R1 hzq.size; replace s := s.draw hcq hzq; clear hzq hcq
     go_wp2_with fail
     go_meet
     exact ⟨x, r, z, 50, 0, rfl, rfl, rfl, rfl, Lib.hid ⟨rfl, rfl⟩, B2, B7, B9, B10, ⟨RA, u_RA⟩, ⟨RL, u_RL⟩, ⟨R0, u_R0⟩, ⟨R1, u_R1⟩, s.c, s.x⟩
    ·
     have q2f : (q == 2) = false := by rw [beq_eq_false_iff_ne]; exact q2
     by_cases q3 : q = 3
     ·
      subst q3; have cb_B2 := blk2 B2; have cb_B7 := blk10 B7; have cb_B9 := blk2 B9; have cb_B10 := blk10 B10
      go_wp2_with fail
      clear cb_B2 cb_B7 cb_B9 cb_B10; refine (s_l1Below g (8) _ _ _ s.c).mono ?_; rintro e w3 ⟨z, rfl, hz0, hz1, hcq, hzq⟩; replace B2 := hzq.blkS B2 (by unfold at1; omega); replace B7 := hzq.blkS B7 (by unfold at1; omega); replace B9 := hzq.blkS B9 (by unfold at1; omega); replace B10 := hzq.blkS B10 (by unfold at1; omega); replace RA := Own.at1g RA hzq (.inl g_RA); replace u_RA := Nat.le_trans u_RA hzq.size; replace RL := Own.at1g RL hzq (.inl g_RL); replace u_RL := Nat.le_trans u_RL hzq.size; replace R0 := Own.at1g R0 hzq (.inl g_R0); replace u_R0 := Nat.le_trans u_R0 hzq.size; replace R1 := Own.at1g R1 hzq (.inl g_R1); replace u_R1 := Nat.le_trans u_R1 hzq.size; replace s := s.draw hcq hzq; clear hzq hcq
      go_wp2_with fail
      go_meet
      exact ⟨x, z, inn, 50, 0, rfl, rfl, rfl, rfl, Lib.hid ⟨rfl, rfl⟩, B2, B7, B9, B10, ⟨RA, u_RA⟩, ⟨RL, u_RL⟩, ⟨R0, u_R0⟩, ⟨R1, u_R1⟩, s.c, s.x⟩
     ·
      have q3f : (q == 3) = false := by rw [beq_eq_false_iff_ne]; exact q3
      by_cases q4 : q = 4
      ·
       subst q4; have cb_B2 := blk2 B2; have cb_B7 := blk10 B7; have cb_B9 := blk2 B9; have cb_B10 := blk10 B10
       go_wp2_with fail
       clear cb_B2 cb_B7 cb_B9 cb_B10; refine (s_l1Below g (8) _ _ _ s.c).mono ?_; rintro e w3 ⟨z, rfl, hz0, hz1, hcq, hzq⟩; replace B2 := hzq.blkS B2 (by unfold at1; omega); replace B7 := hzq.blkS B7 (by unfold at1; omega); replace B9 := hzq.blkS B9 (by unfold at1; omega); replace B10 := hzq.blkS B10 (by unfold at1; omega); replace RA := Own.at1g RA hzq (.inl g_RA); replace u_RA := Nat.le_trans u_RA hzq.size; replace RL := Own.at1g RL hzq (.inl g_RL); replace u_RL := Nat.le_trans u_RL hzq.size; replace R0 := Own.at1g R0 hzq (.inl g_R0); replace u_R0 := Nat.le_trans u_R0 hzq.size; replace R1 := Own.at1g R1 hzq (.inl g_R1); replace u_R1 := Nat.le_trans u_R1 hzq.size; replace s := s.draw hcq hzq; clear hzq hcq; obtain ⟨wpn, hwn, hbn, hcn⟩ := one_set B10 2 (.int .i64 z); simp only [List.setIfInBounds_toArray, List.set_cons_succ, List.set_cons_zero] at hbn; have HWn := Lib.hid hwn; clear hwn; have ff0 := fr_of B10 0; have ff1 := fr_of B10 1; have ff2 := fr_of B10 2; have ff3 := fr_of B10 3; have ff4 := fr_of B10 4; have ff5 := fr_of B10 5; have ff6 := fr_of B10 6; have ff7 := fr_of B10 7; have ff8 := fr_of B10 8; have ff9 := fr_of B10 9; have cb_B2 := blk2 B2; have cb_B7 := blk10 B7; have cb_B9 := blk2 B9; have cb_B10 := blk10 B10
       go_wp2_with fail
       clear cb_B2 cb_B7 cb_B9 cb_B10; rw [← HWn.out]; clear HWn ff0 ff1 ff2 ff3 ff4 ff5 ff6 ff7 ff8 ff9; replace RA := Own.at1g RA hcn (by omega); replace u_RA := Nat.le_trans u_RA hcn.size; replace RL := Own.at1g RL hcn (by omega); replace u_RL := Nat.le_trans u_RL hcn.size; replace R0 := Own.at1g R0 hcn (by omega); replace u_R0 := Nat.le_trans u_R0 hcn.size; replace R1 := Own.at1g R1 hcn (by omega); replace u_R1 := Nat.le_trans u_R1 hcn.size; replace B2 := hcn.blkS B2 (by unfold at1; omega); replace B7 := hcn.blkS B7 (by unfold at1; omega); replace B9 := hcn.blkS B9 (by unfold at1; omega); replace B10 := hbn; clear hbn; replace s := s.put hcn (fun i hi => by have h1 : i = (b9 + 1) := hi; omega)
       try clear hcn
       go_wp2_with fail
       go_meet
       exact ⟨{ x with dst := z }, r, inn, 50, 0, rfl, rfl, rfl, rfl, Lib.hid ⟨rfl, rfl⟩, B2, B7, B9, B10, ⟨RA, u_RA⟩, ⟨RL, u_RL⟩, ⟨R0, u_R0⟩, ⟨R1, u_R1⟩, s.c, s.x⟩
      ·
       have q4f : (q == 4) = false := by rw [beq_eq_false_iff_ne]; exact q4
       by_cases q5 : q = 5
       ·
        subst q5; have cb_B2 := blk2 B2; have cb_B7 := blk10 B7; have cb_B9 := blk2 B9; have cb_B10 := blk10 B10
        go_wp2_with fail
        clear cb_B2 cb_B7 cb_B9 cb_B10; refine (s_l3Word g _ _ _ s.c).mono ?_; rintro e w3 ⟨z, rfl, hz0, hz1, hcq, hzq⟩; replace B2 := hzq.blkS B2 (by unfold at1; omega); replace B7 := hzq.blkS B7 (by unfold at1; omega); replace B9 := hzq.blkS B9 (by unfold at1; omega); replace B10 := hzq.blkS B10 (by unfold at1; omega); replace RA := Own.at1g RA hzq (.inl g_RA); replace u_RA := Nat.le_trans u_RA hzq.size; replace RL := Own.at1g RL hzq (.inl g_RL); replace u_RL := Nat.le_trans u_RL hzq.size; replace R0 := Own.at1g R0 hzq (.inl g_R0); replace u_R0 := Nat.le_trans u_R0 hzq.size; replace R1 := Own.at1g R1 hzq (.inl g_R1); replace u_R1 := Nat.le_trans u_R1 hzq.size; replace s := s.draw hcq hzq; clear hzq hcq; obtain ⟨wpn, hwn, hbn, hcn⟩ := one_set B10 6 (.int .i64 z); simp only [List.setIfInBounds_toArray, List.set_cons_succ, List.set_cons_zero] at hbn; have HWn := Lib.hid hwn; clear hwn; have ff0 := fr_of B10 0; have ff1 := fr_of B10 1; have ff2 := fr_of B10 2; have ff3 := fr_of B10 3; have ff4 := fr_of B10 4; have ff5 := fr_of B10 5; have ff6 := fr_of B10 6; have ff7 := fr_of B10 7; have ff8 := fr_of B10 8; have ff9 := fr_of B10 9; have cb_B2 := blk2 B2; have cb_B7 := blk10 B7; have cb_B9 := blk2 B9; have cb_B10 := blk10 B10
        go_wp2_with fail
        clear cb_B2 cb_B7 cb_B9 cb_B10; rw [← HWn.out]; clear HWn ff0 ff1 ff2 ff3 ff4 ff5 ff6 ff7 ff8 ff9; replace RA := Own.at1g RA hcn (by omega); replace u_RA := Nat.le_trans u_RA hcn.size; replace RL := Own.at1g RL hcn (by omega); replace u_RL := Nat.le_trans u_RL hcn.size; replace R0 := Own.at1g R0 hcn (by omega); replace u_R0 := Nat.le_trans u_R0 hcn.size; replace R1 := Own.at1g R1 hcn (by omega); replace u_R1 := Nat.le_trans u_R1 hcn.size; replace B2 := hcn.blkS B2 (by unfold at1; omega); replace B7 := hcn.blkS B7 (by unfold at1; omega); replace B9 := hcn.blkS B9 (by unfold at1; omega); replace B10 := hbn; clear hbn; replace s := s.put hcn (fun i hi => by have h1 : i = (b9 + 1) := hi; omega)
        try clear hcn
        go_wp2_with fail
        go_meet
        exact ⟨{ x with beta := z }, r, inn, 50, 0, rfl, rfl, rfl, rfl, Lib.hid ⟨rfl, rfl⟩, B2, B7, B9, B10, ⟨RA, u_RA⟩, ⟨RL, u_RL⟩, ⟨R0, u_R0⟩, ⟨R1, u_R1⟩, s.c, s.x⟩
       ·
        have q5f : (q == 5) = false := by rw [beq_eq_false_iff_ne]; exact q5
        go_wp2_with fail
        go_meet
        exact ⟨x, r, inn, 50, 0, rfl, rfl, rfl, rfl, Lib.hid ⟨rfl, rfl⟩, B2, B7, B9, B10, ⟨RA, u_RA⟩, ⟨RL, u_RL⟩, ⟨R0, u_R0⟩, ⟨R1, u_R1⟩, s.c, s.x⟩
 case rest =>
  have hc0z := s.c0; clear s B2 B7 B9 B10 RA RL R0 R1 u_RA u_RL u_R0 u_R1; obtain ⟨y, rq, iq, nq, dq, hv11, hv12, hv13, hv14, hyp, B2, B7, B9, B10, ⟨RA, u_RA⟩, ⟨RL, u_RL⟩, ⟨R0, u_R0⟩, ⟨R1, u_R1⟩, hcC, hcX⟩ := hcut
  obtain ⟨wz, hwz⟩ : ∃ wz : World, wz = wc := ⟨_, rfl⟩
  subst hwz
  have s : DSt g cv code w1 wz := ⟨hcC, hcX, hc0z⟩
  clear hcC hcX hc0z; subst hv11 hv12 hv13 hv14
  have hyb : PktBd y := ⟨by rw [hyp.out.1]; exact hxb.parts, by rw [hyp.out.1]; exact hxb.hops, by rw [hyp.out.2]; exact hxb.pay, by rw [hyp.out.2]; exact hxb.u8⟩
  go_upto_region 17 with (fail)
  refine wp_region_fin (at1 w.heap.size) [([0, 1, 2, 3, 4, 5], 6)] [7, 8, 9, 10] [11] (by kernel_rfl) (by kernel_rfl) (by kernel_rfl) ?_; have ch_B9 := blk2 B9; have q0 := ChgSW.cell (S := at1 w.heap.size) (ch_B9.1) (by first | (unfold at1; simp only; omega) | (simp only; omega)); have q1 := ChgSW.cell (S := at1 w.heap.size) (ch_B9.2) (by first | (unfold at1; simp only; omega) | (simp only; omega)); clear ch_B9; have ch_B10 := blk10 B10; have q2 := ChgSW.cell (S := at1 w.heap.size) (ch_B10.1) (by first | (unfold at1; simp only; omega) | (simp only; omega)); have q3 := ChgSW.cell (S := at1 w.heap.size) (ch_B10.2.1) (by first | (unfold at1; simp only; omega) | (simp only; omega)); have q4 := ChgSW.cell (S := at1 w.heap.size) (ch_B10.2.2.1) (by first | (unfold at1; simp only; omega) | (simp only; omega)); have q5 := ChgSW.cell (S := at1 w.heap.size) (ch_B10.2.2.2.1) (by first | (unfold at1; simp only; omega) | (simp only; omega)); have q6 := ChgSW.cell (S := at1 w.heap.size) (ch_B10.2.2.2.2.1) (by first | (unfold at1; simp only; omega) | (simp only; omega)); have q7 := ChgSW.cell (S := at1 w.heap.size) (ch_B10.2.2.2.2.2.1) (by first | (unfold at1; simp only; omega) | (simp only; omega)); have q8 := ChgSW.cell (S := at1 w.heap.size) (ch_B10.2.2.2.2.2.2.1) (by first | (unfold at1; simp only; omega) | (simp only; omega)); have q9 := ChgSW.cell (S := at1 w.heap.size) (ch_B10.2.2.2.2.2.2.2.1) (by first | (unfold at1; simp only; omega) | (simp only; omega))
  have q10 := ChgSW.cell (S := at1 w.heap.size) (ch_B10.2.2.2.2.2.2.2.2.1) (by first | (unfold at1; simp only; omega) | (simp only; omega)); have q11 := ChgSW.cell (S := at1 w.heap.size) (ch_B10.2.2.2.2.2.2.2.2.2) (by first | (unfold at1; simp only; omega) | (simp only; omega)); clear ch_B10; simp only [wpBlocksX, pickOps, PK]; have hch : Chg (at1 w.heap.size) wz wz.drew := Chg.ofExt (Ext.refl wz).drew; replace B2 := Ext.block ((Ext.refl wz).drew) B2; replace B7 := Ext.block ((Ext.refl wz).drew) B7; replace B9 := Ext.block ((Ext.refl wz).drew) B9; replace B10 := Ext.block ((Ext.refl wz).drew) B10; replace RA := Own.ext RA ((Ext.refl wz).drew); replace u_RA := Nat.le_trans u_RA ((Ext.refl wz).drew).size; replace RL := Own.ext RL ((Ext.refl wz).drew); replace u_RL := Nat.le_trans u_RL ((Ext.refl wz).drew).size; replace R0 := Own.ext R0 ((Ext.refl wz).drew); replace u_R0 := Nat.le_trans u_R0 ((Ext.refl wz).drew).size; replace R1 := Own.ext R1 ((Ext.refl wz).drew); replace u_R1 := Nat.le_trans u_R1 ((Ext.refl wz).drew).size; replace s := s.ext ((Ext.refl wz).drew)
  obtain ⟨wt, hnw⟩ : ∃ wn, wn = wz.drew := ⟨_, rfl⟩
  rw [← hnw] at B2 B7 B9 B10 RA RL R0 R1 u_RA u_RL u_R0 u_R1 s hch ⊢
  clear hnw
  repeat (first | go_big_quiet_step (fail) | quiet_step (fail))
  refine wpQuiet_nil ?_; have hxe := hx0.trans (hn1.ofCur s.x hgl); obtain ⟨wpa, hwa, hba, hca⟩ := two_set B2 (.slice o1 t.ases.length c1) (.slice o2 t.links.length c2); have HWa := Lib.hid hwa; clear hwa; have ff0 := fr_of B2 0; have ff1 := fr_of B2 1; have cb := blk2 B2
  go_wp2_with fail
  rw [← HWa.out]; clear HWa cb ff0 ff1; replace hch := hch.trans (hca.mono (fun b h => h)); refine ⟨⟨⟨_, hch⟩, rfl⟩, ?_⟩; replace RA := Own.at1g RA hca (by omega); replace u_RA := Nat.le_trans u_RA hca.size; replace RL := Own.at1g RL hca (by omega); replace u_RL := Nat.le_trans u_RL hca.size; replace R0 := Own.at1g R0 hca (by omega); replace u_R0 := Nat.le_trans u_R0 hca.size; replace R1 := Own.at1g R1 hca (by omega); replace u_R1 := Nat.le_trans u_R1 hca.size; replace B7 := hca.blkS B7 (by unfold at1; omega); replace B9 := hca.blkS B9 (by unfold at1; omega); replace B10 := hca.blkS B10 (by unfold at1; omega); replace B2 := hba; clear hba; replace hxe := hxe.chg hca (fun i hi => by have h1 : i = w.heap.size := hi; omega)
  try clear hca
  repeat (first | go_big_quiet_step (fail) | quiet_step (fail))
  refine wpQuiet_nil ?_; obtain ⟨wpb, hwb, hbb, hcb⟩ := ten_set B7 (.int .i64 y.kind) (.int .i64 y.src) (.int .i64 y.dst) (.slice o_0 x.path.parts.length c_0) (.int .i64 y.pi) (.int .i64 y.hi) (.int .i64 y.beta) (.int .i64 y.rid) (.int .i64 y.seq) (.slice o_1 x.pay.length c_1); have HWb := Lib.hid hwb; clear hwb; have ff0 := fr_of B7 0; have ff1 := fr_of B7 1; have ff2 := fr_of B7 2; have ff3 := fr_of B7 3; have ff4 := fr_of B7 4; have ff5 := fr_of B7 5; have ff6 := fr_of B7 6; have ff7 := fr_of B7 7; have ff8 := fr_of B7 8; have ff9 := fr_of B7 9; have cb := blk10 B7
  go_wp2_with fail
  rw [← HWb.out]; clear HWb cb ff0 ff1 ff2 ff3 ff4 ff5 ff6 ff7 ff8 ff9; replace RA := Own.at1g RA hcb (by omega); replace u_RA := Nat.le_trans u_RA hcb.size; replace RL := Own.at1g RL hcb (by omega); replace u_RL := Nat.le_trans u_RL hcb.size; replace R0 := Own.at1g R0 hcb (by omega); replace u_R0 := Nat.le_trans u_R0 hcb.size; replace R1 := Own.at1g R1 hcb (by omega); replace u_R1 := Nat.le_trans u_R1 hcb.size; replace B2 := hcb.blkS B2 (by unfold at1; omega); replace B9 := hcb.blkS B9 (by unfold at1; omega); replace B10 := hcb.blkS B10 (by unfold at1; omega); replace B7 := hbb; clear hbb; replace hxe := hxe.chg hcb (fun i hi => by have h1 : i = (w.heap.size + 1) := hi; omega)
  try clear hcb
  refine NoPanic.normal ?_; clear hch q0 q1 q2 q3 q4 q5 q6 q7 q8 q9 q10 q11; have cr_B2 := blk2 B2; have cr_B7 := blk10 B7; have cr_B9 := blk2 B9; have cr_B10 := blk10 B10; have hwb := (hx0.trans hn1).size
  go_wp2_with fail
  refine bodyPost_ret (v := .tuple #[.agg #[.slice o1 t.ases.length c1, .slice o2 t.links.length c2], .int .i64 rq, .int .i64 nq, .int .i64 dq, .int .i64 iq, .agg #[.int .i64 y.kind, .int .i64 y.src, .int .i64 y.dst, .slice o_0 x.path.parts.length c_0, .int .i64 y.pi, .int .i64 y.hi, .int .i64 y.beta, .int .i64 y.rid, .int .i64 y.seq, .slice o_1 x.pay.length c_1]]) (by simp [results, Tryz.results33, go_sem, cr_B2, cr_B7]) rfl ?_; exact ⟨_, _, _, _, t, rq, nq, dq, iq, y, rfl, TK, hyb, (Own.upTo (Own.lo RA (by omega)) (Nat.le_refl _)), (Own.upTo (Own.lo RL (by omega)) (Nat.le_refl _)), by rw [hyp.out.1]; exact (Own.upTo (Own.lo R0 (by omega)) (Nat.le_refl _)), by rw [hyp.out.2]; exact (Own.upTo (Own.lo R1 (by omega)) (Nat.le_refl _)), hxe⟩
set_option maxRecDepth 100000 in
set_option maxHeartbeats 4000000 in
theorem s_DrawVerdictName (code : List Int) (cv : Value) (w : World) (hr : RdS Rep.byte w cv code) (hu : ∀ x ∈ code, U8 x) (hl : code.length ≤ 1048576) :
  Calls Tryz.prog 35 #[cv] w fun e w' => ∃ n : Int, e = .returned (.int .i64 n) ∧ Ext w w' := by
 have hx0 := Ext.refl w
 go_enter Tryz.func35, Tryz.ntmps35
 go_wp2_with fail
 refine (s_l1New code _ _ (hr.ext hx0) hu hl).mono ?_; rintro e w1 ⟨g, rfl, hgl, hc1, hn1⟩; have hgw := hc1.lt
 have s : DSt g cv code w1 w1 := ⟨hc1, Chg.refl _ _, hc1⟩
 clear hc1
 go_wp2_with fail
 refine (s_l1Below g (10) _ _ _ s.c).mono ?_; rintro e w2 ⟨nw, rfl, hn0, hn1b, hcq, hzq⟩; replace s := s.draw hcq hzq; clear hzq hcq; have hxe := hx0.trans (hn1.ofCur s.x hgl)
 go_wp2_with fail
 go_ret
 exact ⟨_, rfl, hxe⟩
set_option maxRecDepth 100000 in
set_option maxHeartbeats 40000000 in
theorem s_DrawEqualVerdicts (code : List Int) (cv : Value) (w : World) (hr : RdS Rep.byte w cv code) (hu : ∀ x ∈ code, U8 x) (hl : code.length ≤ 1048576) :
  Calls Tryz.prog 36 #[cv] w fun e w' => ∃ (p0 p1 q0 q1 : Value) (a b : Vd), e = .returned (.tuple #[.agg #[.int .i64 a.code, .int .i64 a.eg, .int .i64 a.pkt.kind, .int .i64 a.pkt.src, .int .i64 a.pkt.dst, p0, .int .i64 a.pkt.pi, .int .i64 a.pkt.hi, .int .i64 a.pkt.beta, .int .i64 a.pkt.rid, .int .i64 a.pkt.seq, p1], .agg #[.int .i64 b.code, .int .i64 b.eg, .int .i64 b.pkt.kind, .int .i64 b.pkt.src, .int .i64 b.pkt.dst, q0, .int .i64 b.pkt.pi, .int .i64 b.pkt.hi, .int .i64 b.pkt.beta, .int .i64 b.pkt.rid, .int .i64 b.pkt.seq, q1]]) ∧ PktBd a.pkt ∧ PktBd b.pkt ∧ (Own.keep Part.rep).own (rng w.heap.size w'.heap.size) w' p0 a.pkt.path.parts ∧ (Own.keep Rep.byte).own (rng w.heap.size w'.heap.size) w' p1 a.pkt.pay ∧ (Own.keep Part.rep).own (rng w.heap.size w'.heap.size) w' q0 b.pkt.path.parts ∧ (Own.keep Rep.byte).own (rng w.heap.size w'.heap.size) w' q1 b.pkt.pay ∧ Ext w w' := by
 have hx0 := ext2 w (.cells #[.int .i64 0, .int .i64 0, .int .i64 0, .int .i64 0, .int .i64 0, .slice none 0 0, .int .i64 0, .int .i64 0, .int .i64 0, .int .i64 0, .int .i64 0, .slice none 0 0] 62) (.cells #[.int .i64 0, .int .i64 0, .int .i64 0, .int .i64 0, .int .i64 0, .slice none 0 0, .int .i64 0, .int .i64 0, .int .i64 0, .int .i64 0, .int .i64 0, .slice none 0 0] 62); have HB := al2 w (.cells #[.int .i64 0, .int .i64 0, .int .i64 0, .int .i64 0, .int .i64 0, .slice none 0 0, .int .i64 0, .int .i64 0, .int .i64 0, .int .i64 0, .int .i64 0, .slice none 0 0] 62) (.cells #[.int .i64 0, .int .i64 0, .int .i64 0, .int .i64 0, .int .i64 0, .slice none 0 0, .int .i64 0, .int .i64 0, .int .i64 0, .int .i64 0, .int .i64 0, .slice none 0 0] 62)
 go_enter Tryz.func36, Tryz.ntmps36
 go_wp2_with fail
 refine (s_l28One code _ _ (hr.ext hx0) hu hl).mono ?_; rintro e w1 ⟨g, lo1, v1, v2, u0, u1, t, x, r, inn, rfl, TK, hxb, RA, RL, R0, R1, hgl, hglo, hc1, hn1⟩; have hgw := hc1.lt
 have s : DSt g cv code w1 w1 := ⟨hc1, Chg.refl _ _, hc1⟩
 have B2 := Ext.block hn1 HB.1; have B3 := Ext.block hn1 HB.2; have hgr : (w.heap.size + 1) < g := by simp at hgl; omega
 clear HB; have g_RA : g < lo1 := hglo; have u_RA : w1.heap.size ≤ w1.heap.size := Nat.le_refl _; have lt_B2_RA : w.heap.size < lo1 := by omega
 have lt_B3_RA : (w.heap.size + 1) < lo1 := by omega
 have g_RL : g < lo1 := hglo; have u_RL : w1.heap.size ≤ w1.heap.size := Nat.le_refl _; have lt_B2_RL : w.heap.size < lo1 := by omega
 have lt_B3_RL : (w.heap.size + 1) < lo1 := by omega
 have g_R0 : g < lo1 := hglo; have u_R0 : w1.heap.size ≤ w1.heap.size := Nat.le_refl _; have lt_B2_R0 : w.heap.size < lo1 := by omega
 have lt_B3_R0 : (w.heap.size + 1) < lo1 := by omega
 have g_R1 : g < lo1 := hglo; have u_R1 : w1.heap.size ≤ w1.heap.size := Nat.le_refl _; have lt_B2_R1 : w.heap.size < lo1 := by omega
 have lt_B3_R1 : (w.heap.size + 1) < lo1 := by omega
 obtain ⟨o1, c1, rfl, _⟩ := RdS.shape (Own.rd _ RA); obtain ⟨o2, c2, rfl, _⟩ := RdS.shape (Own.rd _ RL); obtain ⟨o_0, c_0, rfl, _⟩ := RdS.shape (Own.rd _ R0); obtain ⟨o_1, c_1, rfl, _⟩ := RdS.shape (Own.rd _ R1); clear hc1; have cb_B2 := blk12 B2; have cb_B3 := blk12 B3
 go_upto_region 2 with (fail)
 clear cb_B2 cb_B3; have hxa := ext2 w1 (.cells #[.slice o1 t.ases.length c1, .slice o2 t.links.length c2] 56) (.cells #[.int .i64 x.kind, .int .i64 x.src, .int .i64 x.dst, .slice o_0 x.path.parts.length c_0, .int .i64 x.pi, .int .i64 x.hi, .int .i64 x.beta, .int .i64 x.rid, .int .i64 x.seq, .slice o_1 x.pay.length c_1] 58); have BB := al2 w1 (.cells #[.slice o1 t.ases.length c1, .slice o2 t.links.length c2] 56) (.cells #[.int .i64 x.kind, .int .i64 x.src, .int .i64 x.dst, .slice o_0 x.path.parts.length c_0, .int .i64 x.pi, .int .i64 x.hi, .int .i64 x.beta, .int .i64 x.rid, .int .i64 x.seq, .slice o_1 x.pay.length c_1] 58)
 obtain ⟨b5, eb5⟩ : ∃ b, b = w1.heap.size := ⟨_, rfl⟩
 have ltw_b5 : w1.heap.size ≤ b5 := by rw [eb5]; exact s.x.size
 have lt_B2_b5 : w.heap.size < b5 := by rw [eb5]; exact blk_lt B2
 have lt_B3_b5 : (w.heap.size + 1) < b5 := by rw [eb5]; exact blk_lt B3
 have hb_RA_b5 : w1.heap.size ≤ b5 := by rw [eb5]; exact u_RA
 have hb_RL_b5 : w1.heap.size ≤ b5 := by rw [eb5]; exact u_RL
 have hb_R0_b5 : w1.heap.size ≤ b5 := by rw [eb5]; exact u_R0
 have hb_R1_b5 : w1.heap.size ≤ b5 := by rw [eb5]; exact u_R1
 replace B2 := Ext.block hxa B2; replace B3 := Ext.block hxa B3; replace RA := Own.ext RA hxa; replace u_RA := Nat.le_trans u_RA hxa.size; replace RL := Own.ext RL hxa; replace u_RL := Nat.le_trans u_RL hxa.size; replace R0 := Own.ext R0 hxa; replace u_R0 := Nat.le_trans u_R0 hxa.size; replace R1 := Own.ext R1 hxa; replace u_R1 := Nat.le_trans u_R1 hxa.size; replace s := s.ext hxa; have B5 := BB.1; have B6 := BB.2; rw [← eb5] at B5 B6; rw [← eb5]; clear hxa BB; generalize ((w1.alloc (.cells #[.slice o1 t.ases.length c1, .slice o2 t.links.length c2] 56)).alloc (.cells #[.int .i64 x.kind, .int .i64 x.src, .int .i64 x.dst, .slice o_0 x.path.parts.length c_0, .int .i64 x.pi, .int .i64 x.hi, .int .i64 x.beta, .int .i64 x.rid, .int .i64 x.seq, .slice o_1 x.pay.length c_1] 58)) = wa at B2 B3 B5 B6 RA RL R0 R1 u_RA u_RL u_R0 u_R1 s ⊢
 clear eb5; have hxs := hxb.size; have cb_B2 := blk12 B2; have cb_B3 := blk12 B3; have cb_B5 := blk2 B5; have cb_B6 := blk10 B6
 go_wp2_with fail
 clear cb_B2 cb_B3 cb_B5 cb_B6; have hbs : w1.heap.size ≤ wa.heap.size := s.x.size; have ltq_B2 : w.heap.size < wa.heap.size := blk_lt B2; have ltq_B3 : (w.heap.size + 1) < wa.heap.size := blk_lt B3; have ltq_B5 : b5 < wa.heap.size := blk_lt B5; have ltq_B6 : (b5 + 1) < wa.heap.size := blk_lt B6; refine (s_Forward t _ _ r 50 0 inn x _ _ _ (Own.rd _ RA) (Own.rd _ RL) (Own.rd _ R0) (Own.rd _ R1) (by omega)).mono ?_; rintro e w2 ⟨w0_, w1_, rfl, OX, hzq⟩; replace B2 := Ext.block hzq B2; replace B3 := Ext.block hzq B3; replace B5 := Ext.block hzq B5; replace B6 := Ext.block hzq B6; replace RA := Own.ext RA hzq; replace u_RA := Nat.le_trans u_RA hzq.size; replace RL := Own.ext RL hzq; replace u_RL := Nat.le_trans u_RL hzq.size; replace R0 := Own.ext R0 hzq; replace u_R0 := Nat.le_trans u_R0 hzq.size; replace R1 := Own.ext R1 hzq; replace u_R1 := Nat.le_trans u_R1 hzq.size; replace s := s.ext hzq
 obtain ⟨v, hv⟩ : ∃ v, v = forward t r 50 0 inn x := ⟨_, rfl⟩
 rw [← hv] at OX ⊢
 have hzb : PktBd v.pkt := by rw [hv]; exact fw_bd hxb
 have hcd := fw_le7 t r 50 0 inn x; rw [← hv] at hcd; obtain ⟨hcd0, hcd7⟩ := hcd; have P0 := Pkt.keep0 OX; have P1 := Pkt.keep1 OX; clear OX hv; obtain ⟨o_0v, c_0v, rfl, _⟩ := RdS.shape (Own.rd _ P0); obtain ⟨o_1v, c_1v, rfl, _⟩ := RdS.shape (Own.rd _ P1); have g_P0 : g < wa.heap.size := by omega
 have u_P0 : w2.heap.size ≤ w2.heap.size := by omega
 have lt_B2_P0 : w.heap.size < wa.heap.size := by omega
 have lt_B3_P0 : (w.heap.size + 1) < wa.heap.size := by omega
 have lt_B5_P0 : b5 < wa.heap.size := by omega
 have lt_B6_P0 : (b5 + 1) < wa.heap.size := by omega
 have g_P1 : g < wa.heap.size := by omega
 have u_P1 : w2.heap.size ≤ w2.heap.size := by omega
 have lt_B2_P1 : w.heap.size < wa.heap.size := by omega
 have lt_B3_P1 : (w.heap.size + 1) < wa.heap.size := by omega
 have lt_B5_P1 : b5 < wa.heap.size := by omega
 have lt_B6_P1 : (b5 + 1) < wa.heap.size := by omega
 clear hzq hbs ltq_B2 ltq_B3 ltq_B5 ltq_B6; have cb_B2 := blk12 B2; have cb_B3 := blk12 B3; have cb_B5 := blk2 B5; have cb_B6 := blk10 B6
 go_upto_region 3 with (fail)
 clear cb_B2 cb_B3 cb_B5 cb_B6; have hxa : Ext w2 (w2.alloc (.cells #[.int .i64 v.code, .int .i64 v.eg, .int .i64 v.pkt.kind, .int .i64 v.pkt.src, .int .i64 v.pkt.dst, .slice o_0v v.pkt.path.parts.length c_0v, .int .i64 v.pkt.pi, .int .i64 v.pkt.hi, .int .i64 v.pkt.beta, .int .i64 v.pkt.rid, .int .i64 v.pkt.seq, .slice o_1v v.pkt.pay.length c_1v] 62)) := (Ext.refl _).alloc _; have BB := blk_new w2 (.cells #[.int .i64 v.code, .int .i64 v.eg, .int .i64 v.pkt.kind, .int .i64 v.pkt.src, .int .i64 v.pkt.dst, .slice o_0v v.pkt.path.parts.length c_0v, .int .i64 v.pkt.pi, .int .i64 v.pkt.hi, .int .i64 v.pkt.beta, .int .i64 v.pkt.rid, .int .i64 v.pkt.seq, .slice o_1v v.pkt.pay.length c_1v] 62)
 obtain ⟨b9, eb9⟩ : ∃ b, b = w2.heap.size := ⟨_, rfl⟩
 have ltw_b9 : w1.heap.size ≤ b9 := by rw [eb9]; exact s.x.size
 have lt_B2_b9 : w.heap.size < b9 := by rw [eb9]; exact blk_lt B2
 have lt_B3_b9 : (w.heap.size + 1) < b9 := by rw [eb9]; exact blk_lt B3
 have lt_B5_b9 : b5 < b9 := by rw [eb9]; exact blk_lt B5
 have lt_B6_b9 : (b5 + 1) < b9 := by rw [eb9]; exact blk_lt B6
 have hb_RA_b9 : w1.heap.size ≤ b9 := by rw [eb9]; exact u_RA
 have hb_RL_b9 : w1.heap.size ≤ b9 := by rw [eb9]; exact u_RL
 have hb_R0_b9 : w1.heap.size ≤ b9 := by rw [eb9]; exact u_R0
 have hb_R1_b9 : w1.heap.size ≤ b9 := by rw [eb9]; exact u_R1
 have hb_P0_b9 : w2.heap.size ≤ b9 := by rw [eb9]; exact u_P0
 have hb_P1_b9 : w2.heap.size ≤ b9 := by rw [eb9]; exact u_P1
 replace B2 := Ext.block hxa B2; replace B3 := Ext.block hxa B3; replace B5 := Ext.block hxa B5; replace B6 := Ext.block hxa B6; replace RA := Own.ext RA hxa; replace u_RA := Nat.le_trans u_RA hxa.size; replace RL := Own.ext RL hxa; replace u_RL := Nat.le_trans u_RL hxa.size; replace R0 := Own.ext R0 hxa; replace u_R0 := Nat.le_trans u_R0 hxa.size; replace R1 := Own.ext R1 hxa; replace u_R1 := Nat.le_trans u_R1 hxa.size; replace P0 := Own.ext P0 hxa; replace u_P0 := Nat.le_trans u_P0 hxa.size; replace P1 := Own.ext P1 hxa; replace u_P1 := Nat.le_trans u_P1 hxa.size; replace s := s.ext hxa; have B9 := BB; rw [← eb9] at B9; rw [← eb9]; clear hxa BB; generalize (w2.alloc (.cells #[.int .i64 v.code, .int .i64 v.eg, .int .i64 v.pkt.kind, .int .i64 v.pkt.src, .int .i64 v.pkt.dst, .slice o_0v v.pkt.path.parts.length c_0v, .int .i64 v.pkt.pi, .int .i64 v.pkt.hi, .int .i64 v.pkt.beta, .int .i64 v.pkt.rid, .int .i64 v.pkt.seq, .slice o_1v v.pkt.pay.length c_1v] 62)) = wb at B2 B3 B5 B6 B9 RA RL R0 R1 P0 P1 u_RA u_RL u_R0 u_R1 u_P0 u_P1 s ⊢
 clear eb9; have cb_B2 := blk12 B2; have cb_B3 := blk12 B3; have cb_B5 := blk2 B5; have cb_B6 := blk10 B6; have cb_B9 := blk12 B9
 go_upto_region 4 with (fail)
 clear cb_B2 cb_B3 cb_B5 cb_B6 cb_B9; have hxa : Ext wb (wb.alloc (.cells #[.int .i64 v.code, .int .i64 v.eg, .int .i64 v.pkt.kind, .int .i64 v.pkt.src, .int .i64 v.pkt.dst, .slice o_0v v.pkt.path.parts.length c_0v, .int .i64 v.pkt.pi, .int .i64 v.pkt.hi, .int .i64 v.pkt.beta, .int .i64 v.pkt.rid, .int .i64 v.pkt.seq, .slice o_1v v.pkt.pay.length c_1v] 62)) := (Ext.refl _).alloc _; have BB := blk_new wb (.cells #[.int .i64 v.code, .int .i64 v.eg, .int .i64 v.pkt.kind, .int .i64 v.pkt.src, .int .i64 v.pkt.dst, .slice o_0v v.pkt.path.parts.length c_0v, .int .i64 v.pkt.pi, .int .i64 v.pkt.hi, .int .i64 v.pkt.beta, .int .i64 v.pkt.rid, .int .i64 v.pkt.seq, .slice o_1v v.pkt.pay.length c_1v] 62)
 obtain ⟨b10, eb10⟩ : ∃ b, b = wb.heap.size := ⟨_, rfl⟩
 have ltw_b10 : w1.heap.size ≤ b10 := by rw [eb10]; exact s.x.size
 have lt_B2_b10 : w.heap.size < b10 := by rw [eb10]; exact blk_lt B2
 have lt_B3_b10 : (w.heap.size + 1) < b10 := by rw [eb10]; exact blk_lt B3
 have lt_B5_b10 : b5 < b10 := by rw [eb10]; exact blk_lt B5
 have lt_B6_b10 : (b5 + 1) < b10 := by rw [eb10]; exact blk_lt B6
 have lt_B9_b10 : b9 < b10 := by rw [eb10]; exact blk_lt B9
 have hb_RA_b10 : w1.heap.size ≤ b10 := by rw [eb10]; exact u_RA
 have hb_RL_b10 : w1.heap.size ≤ b10 := by rw [eb10]; exact u_RL
 have hb_R0_b10 : w1.heap.size ≤ b10 := by rw [eb10]; exact u_R0
 have hb_R1_b10 : w1.heap.size ≤ b10 := by rw [eb10]; exact u_R1
 have hb_P0_b10 : w2.heap.size ≤ b10 := by rw [eb10]; exact u_P0
 have hb_P1_b10 : w2.heap.size ≤ b10 := by rw [eb10]; exact u_P1
 replace B2 := Ext.block hxa B2; replace B3 := Ext.block hxa B3; replace B5 := Ext.block hxa B5; replace B6 := Ext.block hxa B6; replace B9 := Ext.block hxa B9; replace RA := Own.ext RA hxa; replace u_RA := Nat.le_trans u_RA hxa.size; replace RL := Own.ext RL hxa; replace u_RL := Nat.le_trans u_RL hxa.size; replace R0 := Own.ext R0 hxa; replace u_R0 := Nat.le_trans u_R0 hxa.size; replace R1 := Own.ext R1 hxa; replace u_R1 := Nat.le_trans u_R1 hxa.size; replace P0 := Own.ext P0 hxa; replace u_P0 := Nat.le_trans u_P0 hxa.size; replace P1 := Own.ext P1 hxa; replace u_P1 := Nat.le_trans u_P1 hxa.size; replace s := s.ext hxa; have B10 := BB; rw [← eb10] at B10; rw [← eb10]; clear hxa BB; generalize (wb.alloc (.cells #[.int .i64 v.code, .int .i64 v.eg, .int .i64 v.pkt.kind, .int .i64 v.pkt.src, .int .i64 v.pkt.dst, .slice o_0v v.pkt.path.parts.length c_0v, .int .i64 v.pkt.pi, .int .i64 v.pkt.hi, .int .i64 v.pkt.beta, .int .i64 v.pkt.rid, .int .i64 v.pkt.seq, .slice o_1v v.pkt.pay.length c_1v] 62)) = wc1 at B2 B3 B5 B6 B9 B10 RA RL R0 R1 P0 P1 u_RA u_RL u_R0 u_R1 u_P0 u_P1 s ⊢
 clear eb10; have cb_B2 := blk12 B2; have cb_B3 := blk12 B3; have cb_B5 := blk2 B5; have cb_B6 := blk10 B6; have cb_B9 := blk12 B9; have cb_B10 := blk12 B10
 go_wp2_with fail
 clear cb_B2 cb_B3 cb_B5 cb_B6 cb_B9 cb_B10; refine (s_l1Below g (3) _ _ _ s.c).mono ?_; rintro e w3 ⟨q, rfl, hq0, hq1, hcq, hzq⟩; replace B2 := hzq.blkS B2 (by unfold at1; omega); replace B3 := hzq.blkS B3 (by unfold at1; omega); replace B5 := hzq.blkS B5 (by unfold at1; omega); replace B6 := hzq.blkS B6 (by unfold at1; omega); replace B9 := hzq.blkS B9 (by unfold at1; omega); replace B10 := hzq.blkS B10 (by unfold at1; omega); replace RA := Own.at1g RA hzq (.inl g_RA); replace u_RA := Nat.le_trans u_RA hzq.size; replace RL := Own.at1g RL hzq (.inl g_RL); replace u_RL := Nat.le_trans u_RL hzq.size; replace R0 := Own.at1g R0 hzq (.inl g_R0); replace u_R0 := Nat.le_trans u_R0 hzq.size; replace R1 := Own.at1g R1 hzq (.inl g_R1); replace u_R1 := Nat.le_trans u_R1 hzq.size; replace P0 := Own.at1g P0 hzq (.inl g_P0); replace u_P0 := Nat.le_trans u_P0 hzq.size; replace P1 := Own.at1g P1 hzq (.inl g_P1); replace u_P1 := Nat.le_trans u_P1 hzq.size; replace s := s.draw hcq hzq; clear hzq hcq; have Q0 := P0; have Q1 := P1; have u_Q0 := u_P0; have u_Q1 := u_P1; have g_Q0 := g_P0; have lt_B2_Q0 := lt_B2_P0; have lt_B3_Q0 := lt_B3_P0; have g_Q1 := g_P0; have lt_B2_Q1 := lt_B2_P0; have lt_B3_Q1 := lt_B3_P0; clear u_RA g_RA; clear RA; clear u_RL g_RL; clear RL; have cb_B2 := blk12 B2; have cb_B3 := blk12 B3; have cb_B5 := blk2 B5; have cb_B6 := blk10 B6; have cb_B9 := blk12 B9; have cb_B10 := blk12 B10
 go_upto_block 0 with fail
 clear cb_B2 cb_B3 cb_B5 cb_B6 cb_B9 cb_B10
 go_cut [] (fun  wx => ∃ (b : Vd) (vb0 : Value) (vb1 : Value) (lo : Nat) (hi : Nat), (PktBd b.pkt) ∧ (g < lo) ∧ (w.heap.size + 1 < lo) ∧ wx.heap[w.heap.size]? = some (.cells #[.int .i64 0, .int .i64 0, .int .i64 0, .int .i64 0, .int .i64 0, .slice none 0 0, .int .i64 0, .int .i64 0, .int .i64 0, .int .i64 0, .int .i64 0, .slice none 0 0] 62 (0, 0)) ∧ wx.heap[(w.heap.size + 1)]? = some (.cells #[.int .i64 0, .int .i64 0, .int .i64 0, .int .i64 0, .int .i64 0, .slice none 0 0, .int .i64 0, .int .i64 0, .int .i64 0, .int .i64 0, .int .i64 0, .slice none 0 0] 62 (0, 0)) ∧ wx.heap[b9]? = some (.cells #[.int .i64 v.code, .int .i64 v.eg, .int .i64 v.pkt.kind, .int .i64 v.pkt.src, .int .i64 v.pkt.dst, .slice o_0v v.pkt.path.parts.length c_0v, .int .i64 v.pkt.pi, .int .i64 v.pkt.hi, .int .i64 v.pkt.beta, .int .i64 v.pkt.rid, .int .i64 v.pkt.seq, .slice o_1v v.pkt.pay.length c_1v] 62 (0, 0)) ∧ wx.heap[b10]? = some (.cells #[.int .i64 b.code, .int .i64 b.eg, .int .i64 b.pkt.kind, .int .i64 b.pkt.src, .int .i64 b.pkt.dst, vb0, .int .i64 b.pkt.pi, .int .i64 b.pkt.hi, .int .i64 b.pkt.beta, .int .i64 b.pkt.rid, .int .i64 b.pkt.seq, vb1] 62 (0, 0)) ∧ ((Own.keep Part.rep).own (rng wa.heap.size w2.heap.size) wx (.slice o_0v v.pkt.path.parts.length c_0v) v.pkt.path.parts ∧ w2.heap.size ≤ wx.heap.size) ∧ ((Own.keep Rep.byte).own (rng wa.heap.size w2.heap.size) wx (.slice o_1v v.pkt.pay.length c_1v) v.pkt.pay ∧ w2.heap.size ≤ wx.heap.size) ∧ ((Own.keep Part.rep).own (rng lo hi) wx vb0 b.pkt.path.parts ∧ hi ≤ wx.heap.size) ∧ ((Own.keep Rep.byte).own (rng lo hi) wx vb1 b.pkt.pay ∧ hi ≤ wx.heap.size) ∧ Cur g cv code wx ∧ Chg (at1 g) w1 wx)
 case first =>
  by_cases q0 : q = 0
  ·
   subst q0; have hw8 : wrap64 (v.code + 1) = v.code + 1 := by unfold wrap64; omega
   obtain ⟨wpn, hwn, hbn, hcn⟩ := one_set B10 0 (.int .i64 (v.code + 1)); simp only [List.setIfInBounds_toArray, List.set_cons_zero] at hbn; have HWn := Lib.hid hwn; clear hwn; have ff0 := fr_of B10 0; have ff1 := fr_of B10 1; have ff2 := fr_of B10 2; have ff3 := fr_of B10 3; have ff4 := fr_of B10 4; have ff5 := fr_of B10 5; have ff6 := fr_of B10 6; have ff7 := fr_of B10 7; have ff8 := fr_of B10 8; have ff9 := fr_of B10 9; have ff10 := fr_of B10 10; have ff11 := fr_of B10 11; have cb_B2 := blk12 B2; have cb_B3 := blk12 B3; have cb_B5 := blk2 B5; have cb_B6 := blk10 B6; have cb_B9 := blk12 B9; have cb_B10 := blk12 B10
   go_wp2_with fail
   clear cb_B2 cb_B3 cb_B5 cb_B6 cb_B9 cb_B10; rw [← HWn.out]; clear HWn ff0 ff1 ff2 ff3 ff4 ff5 ff6 ff7 ff8 ff9 ff10 ff11; replace R0 := Own.at1g R0 hcn (by omega); replace u_R0 := Nat.le_trans u_R0 hcn.size; replace R1 := Own.at1g R1 hcn (by omega); replace u_R1 := Nat.le_trans u_R1 hcn.size; replace P0 := Own.at1g P0 hcn (by omega); replace u_P0 := Nat.le_trans u_P0 hcn.size; replace P1 := Own.at1g P1 hcn (by omega); replace u_P1 := Nat.le_trans u_P1 hcn.size; replace Q0 := Own.at1g Q0 hcn (by omega); replace u_Q0 := Nat.le_trans u_Q0 hcn.size; replace Q1 := Own.at1g Q1 hcn (by omega); replace u_Q1 := Nat.le_trans u_Q1 hcn.size; replace B2 := hcn.blkS B2 (by unfold at1; omega); replace B3 := hcn.blkS B3 (by unfold at1; omega); replace B5 := hcn.blkS B5 (by unfold at1; omega); replace B6 := hcn.blkS B6 (by unfold at1; omega); replace B9 := hcn.blkS B9 (by unfold at1; omega); replace B10 := hbn; clear hbn; replace s := s.put hcn (fun i hi => by have h1 : i = b10 := hi; omega)
   try clear hcn
   go_wp2_with fail
   go_meet
   exact ⟨⟨v.code + 1, v.eg, v.pkt⟩, _, _, _, _, hzb, g_Q0, lt_B3_Q0, B2, B3, B9, B10, ⟨P0, u_P0⟩, ⟨P1, u_P1⟩, ⟨Q0, u_Q0⟩, ⟨Q1, u_Q1⟩, s.c, s.x⟩
  ·
   have q0f : (q == 0) = false := by rw [beq_eq_false_iff_ne]; exact q0
   by_cases q1 : q = 1
   ·
    subst q1; have cb_B2 := blk12 B2; have cb_B3 := blk12 B3; have cb_B5 := blk2 B5; have cb_B6 := blk10 B6; have cb_B9 := blk12 B9; have cb_B10 := blk12 B10
    go_wp2_with fail
    clear cb_B2 cb_B3 cb_B5 cb_B6 cb_B9 cb_B10; have hbs : w1.heap.size ≤ w3.heap.size := s.x.size; have ltq_B2 : w.heap.size < w3.heap.size := blk_lt B2; have ltq_B3 : (w.heap.size + 1) < w3.heap.size := blk_lt B3; have ltq_B5 : b5 < w3.heap.size := blk_lt B5; have ltq_B6 : (b5 + 1) < w3.heap.size := blk_lt B6; have ltq_B9 : b9 < w3.heap.size := blk_lt B9; have ltq_B10 : b10 < w3.heap.size := blk_lt B10; refine (s_l26Copy x _ _ _ (Own.rd _ R0) (Own.rd _ R1) (by omega)).mono ?_; rintro e w4 ⟨c0_, c1_, rfl, OX, hzq⟩; replace B2 := Ext.block hzq B2; replace B3 := Ext.block hzq B3; replace B5 := Ext.block hzq B5; replace B6 := Ext.block hzq B6; replace B9 := Ext.block hzq B9; replace B10 := Ext.block hzq B10; replace R0 := Own.ext R0 hzq; replace u_R0 := Nat.le_trans u_R0 hzq.size; replace R1 := Own.ext R1 hzq; replace u_R1 := Nat.le_trans u_R1 hzq.size; replace P0 := Own.ext P0 hzq; replace u_P0 := Nat.le_trans u_P0 hzq.size; replace P1 := Own.ext P1 hzq; replace u_P1 := Nat.le_trans u_P1 hzq.size; replace Q0 := Own.ext Q0 hzq; replace u_Q0 := Nat.le_trans u_Q0 hzq.size; replace Q1 := Own.ext Q1 hzq; replace u_Q1 := Nat.le_trans u_Q1 hzq.size; replace s := s.ext hzq; have S0 := Pkt.keep0 OX; have S1 := Pkt.keep1 OX; clear OX; obtain ⟨o_0s, c_0s, rfl, _⟩ := RdS.shape (Own.rd _ S0); obtain ⟨o_1s, c_1s, rfl, _⟩ := RdS.shape (Own.rd _ S1); have g_S0 : g < w3.heap.size := by omega
    have u_S0 : w4.heap.size ≤ w4.heap.size := by omega
    have lt_B2_S0 : w.heap.size < w3.heap.size := by omega
    have lt_B3_S0 : (w.heap.size + 1) < w3.heap.size := by omega
    have lt_B5_S0 : b5 < w3.heap.size := by omega
    have lt_B6_S0 : (b5 + 1) < w3.heap.size := by omega
    have lt_B9_S0 : b9 < w3.heap.size := by omega
    have lt_B10_S0 : b10 < w3.heap.size := by omega
    have g_S1 : g < w3.heap.size := by omega
    have u_S1 : w4.heap.size ≤ w4.heap.size := by omega
    have lt_B2_S1 : w.heap.size < w3.heap.size := by omega
    have lt_B3_S1 : (w.heap.size + 1) < w3.heap.size := by omega
    have lt_B5_S1 : b5 < w3.heap.size := by omega
    have lt_B6_S1 : (b5 + 1) < w3.heap.size := by omega
    have lt_B9_S1 : b9 < w3.heap.size := by omega
    have lt_B10_S1 : b10 < w3.heap.size := by omega
    clear hzq hbs ltq_B2 ltq_B3 ltq_B5 ltq_B6 ltq_B9 ltq_B10; obtain ⟨wpn, hwn, hbn, hcn⟩ := pkt_set B10 (.int .i64 x.kind) (.int .i64 x.src) (.int .i64 x.dst) (.slice o_0s x.path.parts.length c_0s) (.int .i64 x.pi) (.int .i64 x.hi) (.int .i64 x.beta) (.int .i64 x.rid) (.int .i64 x.seq) (.slice o_1s x.pay.length c_1s); have HWn := Lib.hid hwn; clear hwn; have ff0 := fr_of B10 0; have ff1 := fr_of B10 1; have ff2 := fr_of B10 2; have ff3 := fr_of B10 3; have ff4 := fr_of B10 4; have ff5 := fr_of B10 5; have ff6 := fr_of B10 6; have ff7 := fr_of B10 7; have ff8 := fr_of B10 8; have ff9 := fr_of B10 9; have ff10 := fr_of B10 10; have ff11 := fr_of B10 11; have cb_B2 := blk12 B2; have cb_B3 := blk12 B3; have cb_B5 := blk2 B5; have cb_B6 := blk10 B6; have cb_B9 := blk12 B9; have cb_B10 := blk12 B10
    go_wp2_with fail
    clear cb_B2 cb_B3 cb_B5 cb_B6 cb_B9 cb_B10; rw [← HWn.out]; clear HWn ff0 ff1 ff2 ff3 ff4 ff5 ff6 ff7 ff8 ff9 ff10 ff11; replace R0 := Own.at1g R0 hcn (by omega); replace u_R0 := Nat.le_trans u_R0 hcn.size; replace R1 := Own.at1g R1 hcn (by omega); replace u_R1 := Nat.le_trans u_R1 hcn.size; replace P0 := Own.at1g P0 hcn (by omega); replace u_P0 := Nat.le_trans u_P0 hcn.size; replace P1 := Own.at1g P1 hcn (by omega); replace u_P1 := Nat.le_trans u_P1 hcn.size; replace Q0 := Own.at1g Q0 hcn (by omega); replace u_Q0 := Nat.le_trans u_Q0 hcn.size; replace Q1 := Own.at1g Q1 hcn (by omega); replace u_Q1 := Nat.le_trans u_Q1 hcn.size; replace S0 := Own.at1g S0 hcn (by omega); replace u_S0 := Nat.le_trans u_S0 hcn.size; replace S1 := Own.at1g S1 hcn (by omega); replace u_S1 := Nat.le_trans u_S1 hcn.size; replace B2 := hcn.blkS B2 (by unfold at1; omega); replace B3 := hcn.blkS B3 (by unfold at1; omega); replace B5 := hcn.blkS B5 (by unfold at1; omega); replace B6 := hcn.blkS B6 (by unfold at1; omega); replace B9 := hcn.blkS B9 (by unfold at1; omega); replace B10 := hbn; clear hbn; replace s := s.put hcn (fun i hi => by have h1 : i = b10 := hi; omega)
    try clear hcn
    go_wp2_with fail
    go_meet
    exact ⟨⟨v.code, v.eg, x⟩, _, _, _, _, hxb, g_S0, lt_B3_S0, B2, B3, B9, B10, ⟨P0, u_P0⟩, ⟨P1, u_P1⟩, ⟨S0, u_S0⟩, ⟨S1, u_S1⟩, s.c, s.x⟩
   ·
    have q1f : (q == 1) = false := by rw [beq_eq_false_iff_ne]; exact q1
    go_wp2_with fail
    go_meet
    exact ⟨v, _, _, _, _, hzb, g_Q0, lt_B3_Q0, B2, B3, B9, B10, ⟨P0, u_P0⟩, ⟨P1, u_P1⟩, ⟨Q0, u_Q0⟩, ⟨Q1, u_Q1⟩, s.c, s.x⟩
 case rest =>
  have hc0z := s.c0; clear s B2 B3 B5 B6 B9 B10 R0 R1 P0 P1 Q0 Q1 u_R0 u_R1 u_P0 u_P1 u_Q0 u_Q1; obtain ⟨b, vb0, vb1, lo, hi, hbb, hlo1, hlo2, B2, B3, B9, B10, ⟨P0, u_P0⟩, ⟨P1, u_P1⟩, ⟨Q0, u_Q0⟩, ⟨Q1, u_Q1⟩, hcC, hcX⟩ := hcut
  obtain ⟨wz, hwz⟩ : ∃ wz : World, wz = wc := ⟨_, rfl⟩
  subst hwz
  have s : DSt g cv code w1 wz := ⟨hcC, hcX, hc0z⟩
  clear hcC hcX hc0z; obtain ⟨o_0b, c_0b, rfl, _⟩ := RdS.shape (Own.rd _ Q0); obtain ⟨o_1b, c_1b, rfl, _⟩ := RdS.shape (Own.rd _ Q1)
  try clear g_Q0 lt_B2_Q0 lt_B3_Q0
  try clear g_Q1 lt_B2_Q1 lt_B3_Q1
  have g_Q0 : g < lo := by omega
  have lt_B2_Q0 : w.heap.size < lo := by omega
  have lt_B3_Q0 : (w.heap.size + 1) < lo := by omega
  have g_Q1 : g < lo := by omega
  have lt_B2_Q1 : w.heap.size < lo := by omega
  have lt_B3_Q1 : (w.heap.size + 1) < lo := by omega
  have cb_B2 := blk12 B2; have cb_B3 := blk12 B3; have cb_B9 := blk12 B9; have cb_B10 := blk12 B10
  go_upto_region 9 with (fail)
  clear cb_B2 cb_B3 cb_B9 cb_B10; refine wp_region_fin (fun k => k = w.heap.size ∨ k = w.heap.size + 1) [([0, 1], 2), ([], 3)] [] [] (by kernel_rfl) (by kernel_rfl) (by kernel_rfl) ?_; have ch_B9 := blk12 B9; have q0 := ChgSW.cell (S := fun k => k = w.heap.size ∨ k = w.heap.size + 1) (ch_B9.1) (by first | (unfold at1; simp only; omega) | (simp only; omega)); have q1 := ChgSW.cell (S := fun k => k = w.heap.size ∨ k = w.heap.size + 1) (ch_B9.2.1) (by first | (unfold at1; simp only; omega) | (simp only; omega)); have q2 := ChgSW.cell (S := fun k => k = w.heap.size ∨ k = w.heap.size + 1) (ch_B9.2.2.1) (by first | (unfold at1; simp only; omega) | (simp only; omega)); have q3 := ChgSW.cell (S := fun k => k = w.heap.size ∨ k = w.heap.size + 1) (ch_B9.2.2.2.1) (by first | (unfold at1; simp only; omega) | (simp only; omega)); have q4 := ChgSW.cell (S := fun k => k = w.heap.size ∨ k = w.heap.size + 1) (ch_B9.2.2.2.2.1) (by first | (unfold at1; simp only; omega) | (simp only; omega)); have q5 := ChgSW.cell (S := fun k => k = w.heap.size ∨ k = w.heap.size + 1) (ch_B9.2.2.2.2.2.1) (by first | (unfold at1; simp only; omega) | (simp only; omega)); have q6 := ChgSW.cell (S := fun k => k = w.heap.size ∨ k = w.heap.size + 1) (ch_B9.2.2.2.2.2.2.1) (by first | (unfold at1; simp only; omega) | (simp only; omega)); have q7 := ChgSW.cell (S := fun k => k = w.heap.size ∨ k = w.heap.size + 1) (ch_B9.2.2.2.2.2.2.2.1) (by first | (unfold at1; simp only; omega) | (simp only; omega))
  have q8 := ChgSW.cell (S := fun k => k = w.heap.size ∨ k = w.heap.size + 1) (ch_B9.2.2.2.2.2.2.2.2.1) (by first | (unfold at1; simp only; omega) | (simp only; omega)); have q9 := ChgSW.cell (S := fun k => k = w.heap.size ∨ k = w.heap.size + 1) (ch_B9.2.2.2.2.2.2.2.2.2.1) (by first | (unfold at1; simp only; omega) | (simp only; omega)); have q10 := ChgSW.cell (S := fun k => k = w.heap.size ∨ k = w.heap.size + 1) (ch_B9.2.2.2.2.2.2.2.2.2.2.1) (by first | (unfold at1; simp only; omega) | (simp only; omega)); have q11 := ChgSW.cell (S := fun k => k = w.heap.size ∨ k = w.heap.size + 1) (ch_B9.2.2.2.2.2.2.2.2.2.2.2) (by first | (unfold at1; simp only; omega) | (simp only; omega)); clear ch_B9; have ch_B10 := blk12 B10; have q12 := ChgSW.cell (S := fun k => k = w.heap.size ∨ k = w.heap.size + 1) (ch_B10.1) (by first | (unfold at1; simp only; omega) | (simp only; omega)); have q13 := ChgSW.cell (S := fun k => k = w.heap.size ∨ k = w.heap.size + 1) (ch_B10.2.1) (by first | (unfold at1; simp only; omega) | (simp only; omega)); have q14 := ChgSW.cell (S := fun k => k = w.heap.size ∨ k = w.heap.size + 1) (ch_B10.2.2.1) (by first | (unfold at1; simp only; omega) | (simp only; omega)); have q15 := ChgSW.cell (S := fun k => k = w.heap.size ∨ k = w.heap.size + 1) (ch_B10.2.2.2.1) (by first | (unfold at1; simp only; omega) | (simp only; omega))
  have q16 := ChgSW.cell (S := fun k => k = w.heap.size ∨ k = w.heap.size + 1) (ch_B10.2.2.2.2.1) (by first | (unfold at1; simp only; omega) | (simp only; omega)); have q17 := ChgSW.cell (S := fun k => k = w.heap.size ∨ k = w.heap.size + 1) (ch_B10.2.2.2.2.2.1) (by first | (unfold at1; simp only; omega) | (simp only; omega)); have q18 := ChgSW.cell (S := fun k => k = w.heap.size ∨ k = w.heap.size + 1) (ch_B10.2.2.2.2.2.2.1) (by first | (unfold at1; simp only; omega) | (simp only; omega)); have q19 := ChgSW.cell (S := fun k => k = w.heap.size ∨ k = w.heap.size + 1) (ch_B10.2.2.2.2.2.2.2.1) (by first | (unfold at1; simp only; omega) | (simp only; omega)); have q20 := ChgSW.cell (S := fun k => k = w.heap.size ∨ k = w.heap.size + 1) (ch_B10.2.2.2.2.2.2.2.2.1) (by first | (unfold at1; simp only; omega) | (simp only; omega)); have q21 := ChgSW.cell (S := fun k => k = w.heap.size ∨ k = w.heap.size + 1) (ch_B10.2.2.2.2.2.2.2.2.2.1) (by first | (unfold at1; simp only; omega) | (simp only; omega)); have q22 := ChgSW.cell (S := fun k => k = w.heap.size ∨ k = w.heap.size + 1) (ch_B10.2.2.2.2.2.2.2.2.2.2.1) (by first | (unfold at1; simp only; omega) | (simp only; omega)); have q23 := ChgSW.cell (S := fun k => k = w.heap.size ∨ k = w.heap.size + 1) (ch_B10.2.2.2.2.2.2.2.2.2.2.2) (by first | (unfold at1; simp only; omega) | (simp only; omega)); clear ch_B10; simp only [wpBlocksX, pickOps, PK]
  have hch : Chg (fun k => k = w.heap.size ∨ k = w.heap.size + 1) wz wz.drew := Chg.ofExt (Ext.refl wz).drew; replace B2 := Ext.block ((Ext.refl wz).drew) B2; replace B3 := Ext.block ((Ext.refl wz).drew) B3; replace B9 := Ext.block ((Ext.refl wz).drew) B9; replace B10 := Ext.block ((Ext.refl wz).drew) B10; replace P0 := Own.ext P0 ((Ext.refl wz).drew); replace u_P0 := Nat.le_trans u_P0 ((Ext.refl wz).drew).size; replace P1 := Own.ext P1 ((Ext.refl wz).drew); replace u_P1 := Nat.le_trans u_P1 ((Ext.refl wz).drew).size; replace Q0 := Own.ext Q0 ((Ext.refl wz).drew); replace u_Q0 := Nat.le_trans u_Q0 ((Ext.refl wz).drew).size; replace Q1 := Own.ext Q1 ((Ext.refl wz).drew); replace u_Q1 := Nat.le_trans u_Q1 ((Ext.refl wz).drew).size; replace s := s.ext ((Ext.refl wz).drew)
  obtain ⟨wt, hnw⟩ : ∃ wn, wn = wz.drew := ⟨_, rfl⟩
  rw [← hnw] at B2 B3 B9 B10 P0 P1 Q0 Q1 u_P0 u_P1 u_Q0 u_Q1 s hch ⊢
  clear hnw
  repeat (first | go_big_quiet_step (fail) | quiet_step (fail))
  refine wpQuiet_nil ?_; have hxe := hx0.trans (hn1.ofCur s.x hgl); obtain ⟨wpa, hwa, hba, hca⟩ := twelve_set B2 (.int .i64 v.code) (.int .i64 v.eg) (.int .i64 v.pkt.kind) (.int .i64 v.pkt.src) (.int .i64 v.pkt.dst) (.slice o_0v v.pkt.path.parts.length c_0v) (.int .i64 v.pkt.pi) (.int .i64 v.pkt.hi) (.int .i64 v.pkt.beta) (.int .i64 v.pkt.rid) (.int .i64 v.pkt.seq) (.slice o_1v v.pkt.pay.length c_1v); have HWa := Lib.hid hwa; clear hwa; have ff0 := fr_of B2 0; have ff1 := fr_of B2 1; have ff2 := fr_of B2 2; have ff3 := fr_of B2 3; have ff4 := fr_of B2 4; have ff5 := fr_of B2 5; have ff6 := fr_of B2 6; have ff7 := fr_of B2 7; have ff8 := fr_of B2 8; have ff9 := fr_of B2 9; have ff10 := fr_of B2 10; have ff11 := fr_of B2 11; have cb := blk12 B2
  go_wp2_with fail
  rw [← HWa.out]; clear HWa cb ff0 ff1 ff2 ff3 ff4 ff5 ff6 ff7 ff8 ff9 ff10 ff11; replace hch := hch.trans (hca.mono (fun b h => .inl h)); refine ⟨⟨⟨_, hch⟩, rfl⟩, ?_⟩; replace P0 := Own.at1g P0 hca (by omega); replace u_P0 := Nat.le_trans u_P0 hca.size; replace P1 := Own.at1g P1 hca (by omega); replace u_P1 := Nat.le_trans u_P1 hca.size; replace Q0 := Own.at1g Q0 hca (by omega); replace u_Q0 := Nat.le_trans u_Q0 hca.size; replace Q1 := Own.at1g Q1 hca (by omega); replace u_Q1 := Nat.le_trans u_Q1 hca.size; replace B3 := hca.blkS B3 (by unfold at1; omega); replace B9 := hca.blkS B9 (by unfold at1; omega); replace B10 := hca.blkS B10 (by unfold at1; omega); replace B2 := hba; clear hba; replace hxe := hxe.chg hca (fun i hi => by have h1 : i = w.heap.size := hi; omega)
  try clear hca
  repeat (first | go_big_quiet_step (fail) | quiet_step (fail))
  refine wpQuiet_nil ?_; obtain ⟨wpb, hwb, hbb, hcb⟩ := twelve_set B3 (.int .i64 b.code) (.int .i64 b.eg) (.int .i64 b.pkt.kind) (.int .i64 b.pkt.src) (.int .i64 b.pkt.dst) (.slice o_0b b.pkt.path.parts.length c_0b) (.int .i64 b.pkt.pi) (.int .i64 b.pkt.hi) (.int .i64 b.pkt.beta) (.int .i64 b.pkt.rid) (.int .i64 b.pkt.seq) (.slice o_1b b.pkt.pay.length c_1b); have HWb := Lib.hid hwb; clear hwb; have ff0 := fr_of B3 0; have ff1 := fr_of B3 1; have ff2 := fr_of B3 2; have ff3 := fr_of B3 3; have ff4 := fr_of B3 4; have ff5 := fr_of B3 5; have ff6 := fr_of B3 6; have ff7 := fr_of B3 7; have ff8 := fr_of B3 8; have ff9 := fr_of B3 9; have ff10 := fr_of B3 10; have ff11 := fr_of B3 11; have cb := blk12 B3
  go_wp2_with fail
  rw [← HWb.out]; clear HWb cb ff0 ff1 ff2 ff3 ff4 ff5 ff6 ff7 ff8 ff9 ff10 ff11; replace hch := hch.trans (hcb.mono (fun b h => .inr h)); refine ⟨⟨⟨_, hch⟩, rfl⟩, ?_⟩; replace P0 := Own.at1g P0 hcb (by omega); replace u_P0 := Nat.le_trans u_P0 hcb.size; replace P1 := Own.at1g P1 hcb (by omega); replace u_P1 := Nat.le_trans u_P1 hcb.size; replace Q0 := Own.at1g Q0 hcb (by omega); replace u_Q0 := Nat.le_trans u_Q0 hcb.size; replace Q1 := Own.at1g Q1 hcb (by omega); replace u_Q1 := Nat.le_trans u_Q1 hcb.size; replace B2 := hcb.blkS B2 (by unfold at1; omega); replace B9 := hcb.blkS B9 (by unfold at1; omega); replace B10 := hcb.blkS B10 (by unfold at1; omega); replace B3 := hbb; clear hbb; replace hxe := hxe.chg hcb (fun i hi => by have h1 : i = (w.heap.size + 1) := hi; omega)
  try clear hcb
  repeat (first | go_big_quiet_step (fail) | quiet_step (fail))
  refine wpQuiet_nil ?_; refine NoPanic.normal ?_; clear hch q0 q1 q2 q3 q4 q5 q6 q7 q8 q9 q10 q11 q12 q13 q14 q15 q16 q17 q18 q19 q20 q21 q22 q23; have cr_B2 := blk12 B2; have cr_B3 := blk12 B3; have cr_B9 := blk12 B9; have cr_B10 := blk12 B10; have hwb := (hx0.trans hn1).size
  go_wp2_with fail
  refine bodyPost_ret (v := .tuple #[.agg #[.int .i64 v.code, .int .i64 v.eg, .int .i64 v.pkt.kind, .int .i64 v.pkt.src, .int .i64 v.pkt.dst, .slice o_0v v.pkt.path.parts.length c_0v, .int .i64 v.pkt.pi, .int .i64 v.pkt.hi, .int .i64 v.pkt.beta, .int .i64 v.pkt.rid, .int .i64 v.pkt.seq, .slice o_1v v.pkt.pay.length c_1v], .agg #[.int .i64 b.code, .int .i64 b.eg, .int .i64 b.pkt.kind, .int .i64 b.pkt.src, .int .i64 b.pkt.dst, .slice o_0b b.pkt.path.parts.length c_0b, .int .i64 b.pkt.pi, .int .i64 b.pkt.hi, .int .i64 b.pkt.beta, .int .i64 b.pkt.rid, .int .i64 b.pkt.seq, .slice o_1b b.pkt.pay.length c_1b]]) (by simp [results, Tryz.results36, go_sem, cr_B2, cr_B3]) rfl ?_; exact ⟨_, _, _, _, v, b, rfl, hzb, hbb, (Own.upTo (Own.lo P0 (by omega)) (Nat.le_refl _)), (Own.upTo (Own.lo P1 (by omega)) (Nat.le_refl _)), (Own.upTo (Own.lo Q0 (by omega)) (Nat.le_refl _)), (Own.upTo (Own.lo Q1 (by omega)) (Nat.le_refl _)), hxe⟩
end
end Go.Proofs.YtcpfmhgfaliemaaGreat
