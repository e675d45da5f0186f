/- What these laws need: FnForwards: The draws of the code: a packet that has come some way, and what is asked of its hop. -/
import Derived.Test.YtcpfmhgfaliemaaGreatKF25
import Derived.Test.YtcpfmhgfaliemaaGreatKF27
import Derived.Test.YtcpfmhgfaliemaaGreatKF28
namespace Go.Proofs.YtcpfmhgfaliemaaGreat
section
open Go.ChangeShapes Go.WideShapes Go.ChangeAt Go.RowKit Go.Deep
theorem twelve_set {w : World} {b : Nat} {x0 x1 x2 x3 x4 x5 x6 x7 x8 x9 x10 x11 : Value} {t : TypeId} (h : w.heap[b]? = some (.cells #[x0, x1, x2, x3, x4, x5, x6, x7, x8, x9, x10, x11] t (0, 0))) (y0 y1 y2 y3 y4 y5 y6 y7 y8 y9 y10 y11 : Value) :
  ∃ w5, w5 = ((((((((((((w.setCell ⟨b, 0, none⟩ y0).setCell ⟨b, 1, none⟩ y1).setCell ⟨b, 2, none⟩ y2).setCell ⟨b, 3, none⟩ y3).setCell ⟨b, 4, none⟩ y4).setCell ⟨b, 5, none⟩ y5).setCell ⟨b, 6, none⟩ y6).setCell ⟨b, 7, none⟩ y7).setCell ⟨b, 8, none⟩ y8).setCell ⟨b, 9, none⟩ y9).setCell ⟨b, 10, none⟩ y10).setCell ⟨b, 11, none⟩ y11) ∧ w5.heap[b]? = some (.cells #[y0, y1, y2, y3, y4, y5, y6, y7, y8, y9, y10, y11] t (0, 0)) ∧ Chg (at1 b) w w5 := by
 obtain ⟨w5, a1, a2, a3, _⟩ := vd_set h y0 y1 y2 y3 y4 y5 y6 y7 y8 y9 y10 y11; exact ⟨w5, a1, a2, a3⟩
theorem fw_bd {t : Topo} {r now dead inn : Int} {x : Pkt} (h : PktBd x) : PktBd (forward t r now dead inn x).pkt := by
 obtain ⟨h1, h2⟩ := fw_pp t r now dead inn x; exact ⟨by rw [h1]; exact h.parts, by rw [h1]; exact h.hops, by rw [h2]; exact h.pay, by rw [h2]; exact h.u8⟩
set_option maxRecDepth 100000 in
set_option maxHeartbeats 40000000 in
theorem s_l28Draw (g : Nat)  (cv : Value) (cd : List Int) (w : World) (hc : Cur g cv cd w) :
  Calls Tryz.prog 176 #[.pointer (some ⟨g, 0, none⟩)] w fun e w' => ∃ (v1 v2 u0 u1 : Value) (t : Topo) (x : Pkt) (r inn : Int), e = .returned (.tuple #[.agg #[v1, v2], .agg #[.int .i64 x.kind, .int .i64 x.src, .int .i64 x.dst, u0, .int .i64 x.pi, .int .i64 x.hi, .int .i64 x.beta, .int .i64 x.rid, .int .i64 x.seq, u1], .int .i64 r, .int .i64 inn]) ∧ TopoOk t ∧ PktBd x ∧ (Own.keep ASd.rep).own (rng w.heap.size w'.heap.size) w' v1 t.ases ∧ (Own.keep Lnk.rep).own (rng w.heap.size w'.heap.size) w' v2 t.links ∧ (Own.keep Part.rep).own (rng w.heap.size w'.heap.size) w' u0 x.path.parts ∧ (Own.keep Rep.byte).own (rng w.heap.size w'.heap.size) w' u1 x.pay ∧ Cur g cv cd w' ∧ Chg (at1 g) w w' := by
 have hx0 := ext2 w (.cells #[.slice none 0 0, .slice none 0 0] 56) (.cells #[.int .i64 0, .int .i64 0, .int .i64 0, .slice none 0 0, .int .i64 0, .int .i64 0, .int .i64 0, .int .i64 0, .int .i64 0, .slice none 0 0] 58); have HB := al2 w (.cells #[.slice none 0 0, .slice none 0 0] 56) (.cells #[.int .i64 0, .int .i64 0, .int .i64 0, .slice none 0 0, .int .i64 0, .int .i64 0, .int .i64 0, .int .i64 0, .int .i64 0, .slice none 0 0] 58); have hgw := hc.lt
 have s : DSt g cv cd w ((w.alloc (.cells #[.slice none 0 0, .slice none 0 0] 56)).alloc (.cells #[.int .i64 0, .int .i64 0, .int .i64 0, .slice none 0 0, .int .i64 0, .int .i64 0, .int .i64 0, .int .i64 0, .int .i64 0, .slice none 0 0] 58)) := ⟨hc.ext hx0, Chg.ofExt hx0, hc⟩
 have B2 := HB.1; have B3 := HB.2; clear HB hx0
 go_enter Tryz.func176, Tryz.ntmps176
 go_wp2_with fail
 have hbs : w.heap.size ≤ ((w.alloc (.cells #[.slice none 0 0, .slice none 0 0] 56)).alloc (.cells #[.int .i64 0, .int .i64 0, .int .i64 0, .slice none 0 0, .int .i64 0, .int .i64 0, .int .i64 0, .int .i64 0, .int .i64 0, .slice none 0 0] 58)).heap.size := s.x.size; have ltq_B2 : w.heap.size < ((w.alloc (.cells #[.slice none 0 0, .slice none 0 0] 56)).alloc (.cells #[.int .i64 0, .int .i64 0, .int .i64 0, .slice none 0 0, .int .i64 0, .int .i64 0, .int .i64 0, .int .i64 0, .int .i64 0, .slice none 0 0] 58)).heap.size := blk_lt B2; have ltq_B3 : (w.heap.size + 1) < ((w.alloc (.cells #[.slice none 0 0, .slice none 0 0] 56)).alloc (.cells #[.int .i64 0, .int .i64 0, .int .i64 0, .slice none 0 0, .int .i64 0, .int .i64 0, .int .i64 0, .int .i64 0, .int .i64 0, .slice none 0 0] 58)).heap.size := blk_lt B3; refine (s_l26Draw g _ _ _ s.c).mono ?_; rintro e w1 ⟨v1, v2, u0, u1, t, x, rfl, TK, hxb, RA, RL, R0, R1, hcq, hzq⟩; replace B2 := hzq.blkS B2 (by unfold at1; omega); replace B3 := hzq.blkS B3 (by unfold at1; omega); replace s := s.draw hcq hzq; obtain ⟨o1, c1, rfl, _⟩ := RdS.shape (Own.rd _ RA); obtain ⟨o2, c2, rfl, _⟩ := RdS.shape (Own.rd _ RL); obtain ⟨o_0, c_0, rfl, _⟩ := RdS.shape (Own.rd _ R0); obtain ⟨o_1, c_1, rfl, _⟩ := RdS.shape (Own.rd _ R1)
 have g_RA : g < ((w.alloc (.cells #[.slice none 0 0, .slice none 0 0] 56)).alloc (.cells #[.int .i64 0, .int .i64 0, .int .i64 0, .slice none 0 0, .int .i64 0, .int .i64 0, .int .i64 0, .int .i64 0, .int .i64 0, .slice none 0 0] 58)).heap.size := by omega
 have u_RA : w1.heap.size ≤ w1.heap.size := by omega
 have lt_B2_RA : w.heap.size < ((w.alloc (.cells #[.slice none 0 0, .slice none 0 0] 56)).alloc (.cells #[.int .i64 0, .int .i64 0, .int .i64 0, .slice none 0 0, .int .i64 0, .int .i64 0, .int .i64 0, .int .i64 0, .int .i64 0, .slice none 0 0] 58)).heap.size := by omega
 have lt_B3_RA : (w.heap.size + 1) < ((w.alloc (.cells #[.slice none 0 0, .slice none 0 0] 56)).alloc (.cells #[.int .i64 0, .int .i64 0, .int .i64 0, .slice none 0 0, .int .i64 0, .int .i64 0, .int .i64 0, .int .i64 0, .int .i64 0, .slice none 0 0] 58)).heap.size := by omega
 have g_RL : g < ((w.alloc (.cells #[.slice none 0 0, .slice none 0 0] 56)).alloc (.cells #[.int .i64 0, .int .i64 0, .int .i64 0, .slice none 0 0, .int .i64 0, .int .i64 0, .int .i64 0, .int .i64 0, .int .i64 0, .slice none 0 0] 58)).heap.size := by omega
 have u_RL : w1.heap.size ≤ w1.heap.size := by omega
 have lt_B2_RL : w.heap.size < ((w.alloc (.cells #[.slice none 0 0, .slice none 0 0] 56)).alloc (.cells #[.int .i64 0, .int .i64 0, .int .i64 0, .slice none 0 0, .int .i64 0, .int .i64 0, .int .i64 0, .int .i64 0, .int .i64 0, .slice none 0 0] 58)).heap.size := by omega
 have lt_B3_RL : (w.heap.size + 1) < ((w.alloc (.cells #[.slice none 0 0, .slice none 0 0] 56)).alloc (.cells #[.int .i64 0, .int .i64 0, .int .i64 0, .slice none 0 0, .int .i64 0, .int .i64 0, .int .i64 0, .int .i64 0, .int .i64 0, .slice none 0 0] 58)).heap.size := by omega
 have g_R0 : g < ((w.alloc (.cells #[.slice none 0 0, .slice none 0 0] 56)).alloc (.cells #[.int .i64 0, .int .i64 0, .int .i64 0, .slice none 0 0, .int .i64 0, .int .i64 0, .int .i64 0, .int .i64 0, .int .i64 0, .slice none 0 0] 58)).heap.size := by omega
 have u_R0 : w1.heap.size ≤ w1.heap.size := by omega
 have lt_B2_R0 : w.heap.size < ((w.alloc (.cells #[.slice none 0 0, .slice none 0 0] 56)).alloc (.cells #[.int .i64 0, .int .i64 0, .int .i64 0, .slice none 0 0, .int .i64 0, .int .i64 0, .int .i64 0, .int .i64 0, .int .i64 0, .slice none 0 0] 58)).heap.size := by omega
 have lt_B3_R0 : (w.heap.size + 1) < ((w.alloc (.cells #[.slice none 0 0, .slice none 0 0] 56)).alloc (.cells #[.int .i64 0, .int .i64 0, .int .i64 0, .slice none 0 0, .int .i64 0, .int .i64 0, .int .i64 0, .int .i64 0, .int .i64 0, .slice none 0 0] 58)).heap.size := by omega
 have g_R1 : g < ((w.alloc (.cells #[.slice none 0 0, .slice none 0 0] 56)).alloc (.cells #[.int .i64 0, .int .i64 0, .int .i64 0, .slice none 0 0, .int .i64 0, .int .i64 0, .int .i64 0, .int .i64 0, .int .i64 0, .slice none 0 0] 58)).heap.size := by omega
 have u_R1 : w1.heap.size ≤ w1.heap.size := by omega
 have lt_B2_R1 : w.heap.size < ((w.alloc (.cells #[.slice none 0 0, .slice none 0 0] 56)).alloc (.cells #[.int .i64 0, .int .i64 0, .int .i64 0, .slice none 0 0, .int .i64 0, .int .i64 0, .int .i64 0, .int .i64 0, .int .i64 0, .slice none 0 0] 58)).heap.size := by omega
 have lt_B3_R1 : (w.heap.size + 1) < ((w.alloc (.cells #[.slice none 0 0, .slice none 0 0] 56)).alloc (.cells #[.int .i64 0, .int .i64 0, .int .i64 0, .slice none 0 0, .int .i64 0, .int .i64 0, .int .i64 0, .int .i64 0, .int .i64 0, .slice none 0 0] 58)).heap.size := by omega
 clear hzq hcq hbs ltq_B2 ltq_B3; have cb_B2 := blk2 B2; have cb_B3 := blk10 B3
 go_upto_region 2 with (fail)
 clear cb_B2 cb_B3; have hxa := ext2 w1 (.cells #[.slice o1 t.ases.length c1, .slice o2 t.links.length c2] 56) (.cells #[.int .i64 x.kind, .int .i64 x.src, .int .i64 x.dst, .slice o_0 x.path.parts.length c_0, .int .i64 x.pi, .int .i64 x.hi, .int .i64 x.beta, .int .i64 x.rid, .int .i64 x.seq, .slice o_1 x.pay.length c_1] 58); have BB := al2 w1 (.cells #[.slice o1 t.ases.length c1, .slice o2 t.links.length c2] 56) (.cells #[.int .i64 x.kind, .int .i64 x.src, .int .i64 x.dst, .slice o_0 x.path.parts.length c_0, .int .i64 x.pi, .int .i64 x.hi, .int .i64 x.beta, .int .i64 x.rid, .int .i64 x.seq, .slice o_1 x.pay.length c_1] 58)
 obtain ⟨b6, eb6⟩ : ∃ b, b = w1.heap.size := ⟨_, rfl⟩
 have ltw_b6 : w.heap.size ≤ b6 := by rw [eb6]; exact s.x.size
 have lt_B2_b6 : w.heap.size < b6 := by rw [eb6]; exact blk_lt B2
 have lt_B3_b6 : (w.heap.size + 1) < b6 := by rw [eb6]; exact blk_lt B3
 have hb_RA_b6 : w1.heap.size ≤ b6 := by rw [eb6]; exact u_RA
 have hb_RL_b6 : w1.heap.size ≤ b6 := by rw [eb6]; exact u_RL
 have hb_R0_b6 : w1.heap.size ≤ b6 := by rw [eb6]; exact u_R0
 have hb_R1_b6 : w1.heap.size ≤ b6 := by rw [eb6]; exact u_R1
 replace B2 := Ext.block hxa B2; replace B3 := Ext.block hxa B3; replace RA := Own.ext RA hxa; replace u_RA := Nat.le_trans u_RA hxa.size; replace RL := Own.ext RL hxa; replace u_RL := Nat.le_trans u_RL hxa.size; replace R0 := Own.ext R0 hxa; replace u_R0 := Nat.le_trans u_R0 hxa.size; replace R1 := Own.ext R1 hxa; replace u_R1 := Nat.le_trans u_R1 hxa.size; replace s := s.ext hxa; have B6 := BB.1; have B7 := BB.2; rw [← eb6] at B6 B7; rw [← eb6]; clear hxa BB; generalize ((w1.alloc (.cells #[.slice o1 t.ases.length c1, .slice o2 t.links.length c2] 56)).alloc (.cells #[.int .i64 x.kind, .int .i64 x.src, .int .i64 x.dst, .slice o_0 x.path.parts.length c_0, .int .i64 x.pi, .int .i64 x.hi, .int .i64 x.beta, .int .i64 x.rid, .int .i64 x.seq, .slice o_1 x.pay.length c_1] 58)) = wa at B2 B3 B6 B7 RA RL R0 R1 u_RA u_RL u_R0 u_R1 s ⊢
 clear eb6; have cb_B2 := blk2 B2; have cb_B3 := blk10 B3; have cb_B6 := blk2 B6; have cb_B7 := blk10 B7
 go_wp2_with fail
 clear cb_B2 cb_B3 cb_B6 cb_B7; refine (s_CurrentAS x _ _ _ (Own.rd _ R0)).mono ?_; rintro e w2 ⟨rfl, hzq⟩; replace B2 := Ext.block hzq B2; replace B3 := Ext.block hzq B3; replace B6 := Ext.block hzq B6; replace B7 := Ext.block hzq B7; replace RA := Own.ext RA hzq; replace u_RA := Nat.le_trans u_RA hzq.size; replace RL := Own.ext RL hzq; replace u_RL := Nat.le_trans u_RL hzq.size; replace R0 := Own.ext R0 hzq; replace u_R0 := Nat.le_trans u_R0 hzq.size; replace R1 := Own.ext R1 hzq; replace u_R1 := Nat.le_trans u_R1 hzq.size; replace s := s.ext hzq; clear hzq
 obtain ⟨r, hr9⟩ : ∃ r, r = curAs x := ⟨_, rfl⟩
 rw [← hr9]; clear hr9; have cb_B2 := blk2 B2; have cb_B3 := blk10 B3; have cb_B6 := blk2 B6; have cb_B7 := blk10 B7
 go_wp2_with fail
 clear cb_B2 cb_B3 cb_B6 cb_B7; refine (s_l1Below g (4) _ _ _ s.c).mono ?_; rintro e w3 ⟨na, rfl, hna0, hna1, hcq, hzq⟩; replace B2 := hzq.blkS B2 (by unfold at1; omega); replace B3 := hzq.blkS B3 (by unfold at1; omega); replace B6 := hzq.blkS B6 (by unfold at1; omega); replace B7 := hzq.blkS B7 (by unfold at1; omega); replace RA := Own.at1g RA hzq (.inl g_RA); replace u_RA := Nat.le_trans u_RA hzq.size; replace RL := Own.at1g RL hzq (.inl g_RL); replace u_RL := Nat.le_trans u_RL hzq.size; replace R0 := Own.at1g R0 hzq (.inl g_R0); replace u_R0 := Nat.le_trans u_R0 hzq.size; replace R1 := Own.at1g R1 hzq (.inl g_R1); replace u_R1 := Nat.le_trans u_R1 hzq.size; replace s := s.draw hcq hzq; clear hzq hcq; obtain ⟨m, rfl⟩ := Int.eq_ofNat_of_zero_le hna0; have hm4 : m ≤ 4 := by omega
 clear hna0 hna1; have cb_B2 := blk2 B2; have cb_B3 := blk10 B3; have cb_B6 := blk2 B6; have cb_B7 := blk10 B7
 go_wp2_with fail
 clear cb_B2 cb_B3 cb_B6 cb_B7
 go_loopg [8, 9, 10] m (fun gk s8 s9 s10 wx => ∃ (y : Pkt) (ry : Int) (iy : Int) (o_0y : Option Addr) (c_0y : Nat) (o_1y : Option Addr) (c_1y : Nat) (lo : Nat) (hi : Nat), (s8 = .int .i64 ry) ∧ (s9 = .int .i64 iy) ∧ (s10 = .int .i64 (gk : Int)) ∧ (gk ≤ 4) ∧ (PktBd y) ∧ (g < lo) ∧ (w.heap.size + 1 < lo) ∧ wx.heap[w.heap.size]? = some (.cells #[.slice none 0 0, .slice none 0 0] 56 (0, 0)) ∧ wx.heap[(w.heap.size + 1)]? = some (.cells #[.int .i64 0, .int .i64 0, .int .i64 0, .slice none 0 0, .int .i64 0, .int .i64 0, .int .i64 0, .int .i64 0, .int .i64 0, .slice none 0 0] 58 (0, 0)) ∧ wx.heap[b6]? = some (.cells #[.slice o1 t.ases.length c1, .slice o2 t.links.length c2] 56 (0, 0)) ∧ wx.heap[(b6 + 1)]? = some (.cells #[.int .i64 y.kind, .int .i64 y.src, .int .i64 y.dst, .slice o_0y y.path.parts.length c_0y, .int .i64 y.pi, .int .i64 y.hi, .int .i64 y.beta, .int .i64 y.rid, .int .i64 y.seq, .slice o_1y y.pay.length c_1y] 58 (0, 0)) ∧ ((Own.keep ASd.rep).own (rng ((w.alloc (.cells #[.slice none 0 0, .slice none 0 0] 56)).alloc (.cells #[.int .i64 0, .int .i64 0, .int .i64 0, .slice none 0 0, .int .i64 0, .int .i64 0, .int .i64 0, .int .i64 0, .int .i64 0, .slice none 0 0] 58)).heap.size w1.heap.size) wx (.slice o1 t.ases.length c1) t.ases ∧ w1.heap.size ≤ wx.heap.size) ∧ ((Own.keep Lnk.rep).own (rng ((w.alloc (.cells #[.slice none 0 0, .slice none 0 0] 56)).alloc (.cells #[.int .i64 0, .int .i64 0, .int .i64 0, .slice none 0 0, .int .i64 0, .int .i64 0, .int .i64 0, .int .i64 0, .int .i64 0, .slice none 0 0] 58)).heap.size w1.heap.size) wx (.slice o2 t.links.length c2) t.links ∧ w1.heap.size ≤ wx.heap.size) ∧ ((Own.keep Part.rep).own (rng lo hi) wx (.slice o_0y y.path.parts.length c_0y) y.path.parts ∧ hi ≤ wx.heap.size) ∧ ((Own.keep Rep.byte).own (rng lo hi) wx (.slice o_1y y.pay.length c_1y) y.pay ∧ hi ≤ wx.heap.size) ∧ Cur g cv cd wx ∧ Chg (at1 g) w wx)
 case atStart => exact ⟨x, r, 0, _, _, _, _, _, _, rfl, rfl, rfl, hm4, hxb, g_R0, lt_B3_R0, B2, B3, B6, B7, ⟨RA, u_RA⟩, ⟨RL, u_RL⟩, ⟨R0, u_R0⟩, ⟨R1, u_R1⟩, s.c, s.x⟩
 case round =>
  have hc0z := s.c0; clear s B2 B3 B6 B7 RA RL R0 R1 u_RA u_RL u_R0 u_R1; obtain ⟨y, ry, iy, o_0y, c_0y, o_1y, c_1y, lo, hi, hs1, hs2, hs3, hgk4, hyb, hlo1, hlo2, B2, B3, B6, B7, ⟨RA, u_RA⟩, ⟨RL, u_RL⟩, ⟨R0, u_R0⟩, ⟨R1, u_R1⟩, hcC, hcX⟩ := hrel
  obtain ⟨wz, hwz⟩ : ∃ wz : World, wz = wr := ⟨_, rfl⟩
  subst hwz
  have s : DSt g cv cd w wz := ⟨hcC, hcX, hc0z⟩
  clear hcC hcX hc0z
  obtain ⟨gq, hgq⟩ : ∃ gq : Nat, gq = gk := ⟨_, rfl⟩
  subst hgq; subst hs1 hs2 hs3; clear hxb hm4 g_R0 lt_B2_R0 lt_B3_R0 g_R1 lt_B2_R1 lt_B3_R1
  try clear g_R0 lt_B2_R0 lt_B3_R0
  try clear g_R1 lt_B2_R1 lt_B3_R1
  have g_R0 : g < lo := by omega
  have lt_B2_R0 : w.heap.size < lo := by omega
  have lt_B3_R0 : (w.heap.size + 1) < lo := by omega
  have g_R1 : g < lo := by omega
  have lt_B2_R1 : w.heap.size < lo := by omega
  have lt_B3_R1 : (w.heap.size + 1) < lo := by omega
  have hys := hyb.size
  by_cases hg0 : 0 < gq
  ·
   have hg1 : (0 : Int) < (gq : Int) := by omega
   by_cases hr0 : 0 ≤ ry
   ·
    have cb_B2 := blk2 B2; have cb_B3 := blk10 B3; have cb_B6 := blk2 B6; have cb_B7 := blk10 B7
    go_wp2_with fail
    clear cb_B2 cb_B3 cb_B6 cb_B7; have hbs : w.heap.size ≤ wz.heap.size := s.x.size; have ltq_B2 : w.heap.size < wz.heap.size := blk_lt B2; have ltq_B3 : (w.heap.size + 1) < wz.heap.size := blk_lt B3; have ltq_B6 : b6 < wz.heap.size := blk_lt B6; have ltq_B7 : (b6 + 1) < wz.heap.size := blk_lt B7; refine (s_Forward t _ _ ry 50 0 iy y _ _ _ (Own.rd _ RA) (Own.rd _ RL) (Own.rd _ R0) (Own.rd _ R1) (by omega)).mono ?_; rintro e w4 ⟨w0_, w1_, rfl, OX, hzq⟩; replace B2 := Ext.block hzq B2; replace B3 := Ext.block hzq B3; replace B6 := Ext.block hzq B6; replace B7 := Ext.block hzq B7; replace RA := Own.ext RA hzq; replace u_RA := Nat.le_trans u_RA hzq.size; replace RL := Own.ext RL hzq; replace u_RL := Nat.le_trans u_RL hzq.size; replace R0 := Own.ext R0 hzq; replace u_R0 := Nat.le_trans u_R0 hzq.size; replace R1 := Own.ext R1 hzq; replace u_R1 := Nat.le_trans u_R1 hzq.size; replace s := s.ext hzq
    obtain ⟨v, hv⟩ : ∃ v, v = forward t ry 50 0 iy y := ⟨_, rfl⟩
    rw [← hv] at OX ⊢
    have hzb : PktBd v.pkt := by rw [hv]; exact fw_bd hyb
    have P0 := Pkt.keep0 OX; have P1 := Pkt.keep1 OX; clear OX hv; obtain ⟨o_0v, c_0v, rfl, _⟩ := RdS.shape (Own.rd _ P0); obtain ⟨o_1v, c_1v, rfl, _⟩ := RdS.shape (Own.rd _ P1); have g_P0 : g < wz.heap.size := by omega
    have u_P0 : w4.heap.size ≤ w4.heap.size := by omega
    have lt_B2_P0 : w.heap.size < wz.heap.size := by omega
    have lt_B3_P0 : (w.heap.size + 1) < wz.heap.size := by omega
    have lt_B6_P0 : b6 < wz.heap.size := by omega
    have lt_B7_P0 : (b6 + 1) < wz.heap.size := by omega
    have g_P1 : g < wz.heap.size := by omega
    have u_P1 : w4.heap.size ≤ w4.heap.size := by omega
    have lt_B2_P1 : w.heap.size < wz.heap.size := by omega
    have lt_B3_P1 : (w.heap.size + 1) < wz.heap.size := by omega
    have lt_B6_P1 : b6 < wz.heap.size := by omega
    have lt_B7_P1 : (b6 + 1) < wz.heap.size := by omega
    clear hzq hbs ltq_B2 ltq_B3 ltq_B6 ltq_B7; have cb_B2 := blk2 B2; have cb_B3 := blk10 B3; have cb_B6 := blk2 B6; have cb_B7 := blk10 B7
    go_upto_region 8 with (fail)
    clear cb_B2 cb_B3 cb_B6 cb_B7; have hxa : Ext w4 (w4.alloc (.cells #[.int .i64 v.code, .int .i64 v.eg, .int .i64 v.pkt.kind, .int .i64 v.pkt.src, .int .i64 v.pkt.dst, .slice o_0v v.pkt.path.parts.length c_0v, .int .i64 v.pkt.pi, .int .i64 v.pkt.hi, .int .i64 v.pkt.beta, .int .i64 v.pkt.rid, .int .i64 v.pkt.seq, .slice o_1v v.pkt.pay.length c_1v] 62)) := (Ext.refl _).alloc _; have BB := blk_new w4 (.cells #[.int .i64 v.code, .int .i64 v.eg, .int .i64 v.pkt.kind, .int .i64 v.pkt.src, .int .i64 v.pkt.dst, .slice o_0v v.pkt.path.parts.length c_0v, .int .i64 v.pkt.pi, .int .i64 v.pkt.hi, .int .i64 v.pkt.beta, .int .i64 v.pkt.rid, .int .i64 v.pkt.seq, .slice o_1v v.pkt.pay.length c_1v] 62)
    obtain ⟨b11, eb11⟩ : ∃ b, b = w4.heap.size := ⟨_, rfl⟩
    have ltw_b11 : w.heap.size ≤ b11 := by rw [eb11]; exact s.x.size
    have lt_B2_b11 : w.heap.size < b11 := by rw [eb11]; exact blk_lt B2
    have lt_B3_b11 : (w.heap.size + 1) < b11 := by rw [eb11]; exact blk_lt B3
    have lt_B6_b11 : b6 < b11 := by rw [eb11]; exact blk_lt B6
    have lt_B7_b11 : (b6 + 1) < b11 := by rw [eb11]; exact blk_lt B7
    have hb_RA_b11 : w1.heap.size ≤ b11 := by rw [eb11]; exact u_RA
    have hb_RL_b11 : w1.heap.size ≤ b11 := by rw [eb11]; exact u_RL
    have hb_R0_b11 : hi ≤ b11 := by rw [eb11]; exact u_R0
    have hb_R1_b11 : hi ≤ b11 := by rw [eb11]; exact u_R1
    have hb_P0_b11 : w4.heap.size ≤ b11 := by rw [eb11]; exact u_P0
    have hb_P1_b11 : w4.heap.size ≤ b11 := by rw [eb11]; exact u_P1
    replace B2 := Ext.block hxa B2; replace B3 := Ext.block hxa B3; replace B6 := Ext.block hxa B6; replace B7 := Ext.block hxa B7; replace RA := Own.ext RA hxa; replace u_RA := Nat.le_trans u_RA hxa.size; replace RL := Own.ext RL hxa; replace u_RL := Nat.le_trans u_RL hxa.size; replace R0 := Own.ext R0 hxa; replace u_R0 := Nat.le_trans u_R0 hxa.size; replace R1 := Own.ext R1 hxa; replace u_R1 := Nat.le_trans u_R1 hxa.size; replace P0 := Own.ext P0 hxa; replace u_P0 := Nat.le_trans u_P0 hxa.size; replace P1 := Own.ext P1 hxa; replace u_P1 := Nat.le_trans u_P1 hxa.size; replace s := s.ext hxa; have B11 := BB; rw [← eb11] at B11; rw [← eb11]; clear hxa BB; generalize (w4.alloc (.cells #[.int .i64 v.code, .int .i64 v.eg, .int .i64 v.pkt.kind, .int .i64 v.pkt.src, .int .i64 v.pkt.dst, .slice o_0v v.pkt.path.parts.length c_0v, .int .i64 v.pkt.pi, .int .i64 v.pkt.hi, .int .i64 v.pkt.beta, .int .i64 v.pkt.rid, .int .i64 v.pkt.seq, .slice o_1v v.pkt.pay.length c_1v] 62)) = wb at B2 B3 B6 B7 B11 RA RL R0 R1 P0 P1 u_RA u_RL u_R0 u_R1 u_P0 u_P1 s ⊢
    clear eb11; clear hg1 hr0
    by_cases hcd : v.code = 0
    ·
     have hcd2 : (v.code != 0) = false := by rw [hcd]; rfl
     clear hcd; have cb_B2 := blk2 B2; have cb_B3 := blk10 B3; have cb_B6 := blk2 B6; have cb_B7 := blk10 B7; have cb_B11 := blk12 B11
     go_upto_region 10 with (fail)
     clear cb_B2 cb_B3 cb_B6 cb_B7 cb_B11; clear u_R0 g_R0; clear R0; clear u_R1 g_R1; clear R1; obtain ⟨wpn, hwn, hbn, hcn⟩ := ten_set B7 (.int .i64 v.pkt.kind) (.int .i64 v.pkt.src) (.int .i64 v.pkt.dst) (.slice o_0v v.pkt.path.parts.length c_0v) (.int .i64 v.pkt.pi) (.int .i64 v.pkt.hi) (.int .i64 v.pkt.beta) (.int .i64 v.pkt.rid) (.int .i64 v.pkt.seq) (.slice o_1v v.pkt.pay.length c_1v); have HWn := Lib.hid hwn; clear hwn; have ff0 := fr_of B7 0; have ff1 := fr_of B7 1; have ff2 := fr_of B7 2; have ff3 := fr_of B7 3; have ff4 := fr_of B7 4; have ff5 := fr_of B7 5; have ff6 := fr_of B7 6; have ff7 := fr_of B7 7; have ff8 := fr_of B7 8; have ff9 := fr_of B7 9; have cb_B2 := blk2 B2; have cb_B3 := blk10 B3; have cb_B6 := blk2 B6; have cb_B7 := blk10 B7; have cb_B11 := blk12 B11
     go_upto_region 11 with (fail)
     clear cb_B2 cb_B3 cb_B6 cb_B7 cb_B11; rw [← HWn.out]; clear HWn ff0 ff1 ff2 ff3 ff4 ff5 ff6 ff7 ff8 ff9; replace RA := Own.at1g RA hcn (by omega); replace u_RA := Nat.le_trans u_RA hcn.size; replace RL := Own.at1g RL hcn (by omega); replace u_RL := Nat.le_trans u_RL hcn.size; replace P0 := Own.at1g P0 hcn (by omega); replace u_P0 := Nat.le_trans u_P0 hcn.size; replace P1 := Own.at1g P1 hcn (by omega); replace u_P1 := Nat.le_trans u_P1 hcn.size; replace B2 := hcn.blkS B2 (by unfold at1; omega); replace B3 := hcn.blkS B3 (by unfold at1; omega); replace B6 := hcn.blkS B6 (by unfold at1; omega); replace B11 := hcn.blkS B11 (by unfold at1; omega); replace B7 := hbn; clear hbn; replace s := s.put hcn (fun i hi => by have h1 : i = (b6 + 1) := hi; omega)
     try clear hcn
     have cb_B2 := blk2 B2; have cb_B3 := blk10 B3; have cb_B6 := blk2 B6; have cb_B7 := blk10 B7; have cb_B11 := blk12 B11
     go_wp2_with fail
     clear cb_B2 cb_B3 cb_B6 cb_B7 cb_B11; refine (s_RemoteEnd t _ _ ry v.eg _ (Own.rd _ RL)).mono ?_; rintro e w5 ⟨rfl, hzq⟩; replace B2 := Ext.block hzq B2; replace B3 := Ext.block hzq B3; replace B6 := Ext.block hzq B6; replace B7 := Ext.block hzq B7; replace B11 := Ext.block hzq B11; replace RA := Own.ext RA hzq; replace u_RA := Nat.le_trans u_RA hzq.size; replace RL := Own.ext RL hzq; replace u_RL := Nat.le_trans u_RL hzq.size; replace P0 := Own.ext P0 hzq; replace u_P0 := Nat.le_trans u_P0 hzq.size; replace P1 := Own.ext P1 hzq; replace u_P1 := Nat.le_trans u_P1 hzq.size; replace s := s.ext hzq; clear hzq
     obtain ⟨q, hq9⟩ : ∃ q, q = remEnd t ry v.eg := ⟨_, rfl⟩
     rw [← hq9]; clear hq9; have cb_B2 := blk2 B2; have cb_B3 := blk10 B3; have cb_B6 := blk2 B6; have cb_B7 := blk10 B7; have cb_B11 := blk12 B11
     go_wp2_with fail
     clear cb_B2 cb_B3 cb_B6 cb_B7 cb_B11
     go_roundg (gq - 1)
     case measure => omega
     case rel => exact ⟨v.pkt, q.1, q.2, _, _, _, _, _, _, rfl, rfl, congrArg (Value.int .i64) (by first | omega | (unfold wrap64; omega)), by omega, hzb, g_P0, lt_B3_P0, B2, B3, B6, B7, ⟨RA, u_RA⟩, ⟨RL, u_RL⟩, ⟨P0, u_P0⟩, ⟨P1, u_P1⟩, s.c, s.x⟩
    ·
     have hcd2 : (v.code != 0) = true := by rw [bne_iff_ne]; exact hcd
     clear hcd; have cb_B2 := blk2 B2; have cb_B3 := blk10 B3; have cb_B6 := blk2 B6; have cb_B7 := blk10 B7; have cb_B11 := blk12 B11
     go_upto_region 9 with (fail)
     clear cb_B2 cb_B3 cb_B6 cb_B7 cb_B11; refine wp_region_fin (fun k => k = w.heap.size ∨ k = w.heap.size + 1) [([0, 1, 2, 3], 4), ([], 5)] [6, 7] [] (by kernel_rfl) (by kernel_rfl) (by kernel_rfl) ?_; have ch_B6 := blk2 B6; have q0 := ChgSW.cell (S := fun k => k = w.heap.size ∨ k = w.heap.size + 1) (ch_B6.1) (by first | (unfold at1; simp only; omega) | (simp only; omega)); have q1 := ChgSW.cell (S := fun k => k = w.heap.size ∨ k = w.heap.size + 1) (ch_B6.2) (by first | (unfold at1; simp only; omega) | (simp only; omega)); clear ch_B6; have ch_B7 := blk10 B7; have q2 := ChgSW.cell (S := fun k => k = w.heap.size ∨ k = w.heap.size + 1) (ch_B7.1) (by first | (unfold at1; simp only; omega) | (simp only; omega)); have q3 := ChgSW.cell (S := fun k => k = w.heap.size ∨ k = w.heap.size + 1) (ch_B7.2.1) (by first | (unfold at1; simp only; omega) | (simp only; omega)); have q4 := ChgSW.cell (S := fun k => k = w.heap.size ∨ k = w.heap.size + 1) (ch_B7.2.2.1) (by first | (unfold at1; simp only; omega) | (simp only; omega)); have q5 := ChgSW.cell (S := fun k => k = w.heap.size ∨ k = w.heap.size + 1) (ch_B7.2.2.2.1) (by first | (unfold at1; simp only; omega) | (simp only; omega)); have q6 := ChgSW.cell (S := fun k => k = w.heap.size ∨ k = w.heap.size + 1) (ch_B7.2.2.2.2.1) (by first | (unfold at1; simp only; omega) | (simp only; omega))
     have q7 := ChgSW.cell (S := fun k => k = w.heap.size ∨ k = w.heap.size + 1) (ch_B7.2.2.2.2.2.1) (by first | (unfold at1; simp only; omega) | (simp only; omega)); have q8 := ChgSW.cell (S := fun k => k = w.heap.size ∨ k = w.heap.size + 1) (ch_B7.2.2.2.2.2.2.1) (by first | (unfold at1; simp only; omega) | (simp only; omega)); have q9 := ChgSW.cell (S := fun k => k = w.heap.size ∨ k = w.heap.size + 1) (ch_B7.2.2.2.2.2.2.2.1) (by first | (unfold at1; simp only; omega) | (simp only; omega)); have q10 := ChgSW.cell (S := fun k => k = w.heap.size ∨ k = w.heap.size + 1) (ch_B7.2.2.2.2.2.2.2.2.1) (by first | (unfold at1; simp only; omega) | (simp only; omega)); have q11 := ChgSW.cell (S := fun k => k = w.heap.size ∨ k = w.heap.size + 1) (ch_B7.2.2.2.2.2.2.2.2.2) (by first | (unfold at1; simp only; omega) | (simp only; omega)); clear ch_B7; simp only [wpBlocksX, pickOps, PK]; have hch : Chg (fun k => k = w.heap.size ∨ k = w.heap.size + 1) wb wb.drew := Chg.ofExt (Ext.refl wb).drew; replace B2 := Ext.block ((Ext.refl wb).drew) B2; replace B3 := Ext.block ((Ext.refl wb).drew) B3; replace B6 := Ext.block ((Ext.refl wb).drew) B6; replace B7 := Ext.block ((Ext.refl wb).drew) B7; replace B11 := Ext.block ((Ext.refl wb).drew) B11; replace RA := Own.ext RA ((Ext.refl wb).drew); replace u_RA := Nat.le_trans u_RA ((Ext.refl wb).drew).size; replace RL := Own.ext RL ((Ext.refl wb).drew); replace u_RL := Nat.le_trans u_RL ((Ext.refl wb).drew).size; replace R0 := Own.ext R0 ((Ext.refl wb).drew)
     replace u_R0 := Nat.le_trans u_R0 ((Ext.refl wb).drew).size; replace R1 := Own.ext R1 ((Ext.refl wb).drew); replace u_R1 := Nat.le_trans u_R1 ((Ext.refl wb).drew).size; replace P0 := Own.ext P0 ((Ext.refl wb).drew); replace u_P0 := Nat.le_trans u_P0 ((Ext.refl wb).drew).size; replace P1 := Own.ext P1 ((Ext.refl wb).drew); replace u_P1 := Nat.le_trans u_P1 ((Ext.refl wb).drew).size; replace s := s.ext ((Ext.refl wb).drew)
     obtain ⟨wt, hnw⟩ : ∃ wn, wn = wb.drew := ⟨_, rfl⟩
     rw [← hnw] at B2 B3 B6 B7 B11 RA RL R0 R1 P0 P1 u_RA u_RL u_R0 u_R1 u_P0 u_P1 s hch ⊢
     clear hnw
     repeat (first | go_big_quiet_step (fail) | quiet_step (fail))
     refine wpQuiet_nil ?_; obtain ⟨wpa, hwa, hba, hca⟩ := two_set B2 (.slice o1 t.ases.length c1) (.slice o2 t.links.length c2); have HWa := Lib.hid hwa; clear hwa; have ff0 := fr_of B2 0; have ff1 := fr_of B2 1; have cb := blk2 B2
     go_wp2_with fail
     rw [← HWa.out]; clear HWa cb ff0 ff1; replace hch := hch.trans (hca.mono (fun b h => .inl h)); refine ⟨⟨⟨_, hch⟩, rfl⟩, ?_⟩; replace RA := Own.at1g RA hca (by omega); replace u_RA := Nat.le_trans u_RA hca.size; replace RL := Own.at1g RL hca (by omega); replace u_RL := Nat.le_trans u_RL hca.size; replace R0 := Own.at1g R0 hca (by omega); replace u_R0 := Nat.le_trans u_R0 hca.size; replace R1 := Own.at1g R1 hca (by omega); replace u_R1 := Nat.le_trans u_R1 hca.size; replace P0 := Own.at1g P0 hca (by omega); replace u_P0 := Nat.le_trans u_P0 hca.size; replace P1 := Own.at1g P1 hca (by omega); replace u_P1 := Nat.le_trans u_P1 hca.size; replace B3 := hca.blkS B3 (by unfold at1; omega); replace B6 := hca.blkS B6 (by unfold at1; omega); replace B7 := hca.blkS B7 (by unfold at1; omega); replace B11 := hca.blkS B11 (by unfold at1; omega); replace B2 := hba; clear hba; replace s := s.put hca (fun i hi => by have h1 : i = w.heap.size := hi; omega)
     try clear hca
     repeat (first | go_big_quiet_step (fail) | quiet_step (fail))
     refine wpQuiet_nil ?_; obtain ⟨wpb, hwb, hbb, hcb⟩ := ten_set B3 (.int .i64 y.kind) (.int .i64 y.src) (.int .i64 y.dst) (.slice o_0y y.path.parts.length c_0y) (.int .i64 y.pi) (.int .i64 y.hi) (.int .i64 y.beta) (.int .i64 y.rid) (.int .i64 y.seq) (.slice o_1y y.pay.length c_1y); have HWb := Lib.hid hwb; clear hwb; have ff0 := fr_of B3 0; have ff1 := fr_of B3 1; have ff2 := fr_of B3 2; have ff3 := fr_of B3 3; have ff4 := fr_of B3 4; have ff5 := fr_of B3 5; have ff6 := fr_of B3 6; have ff7 := fr_of B3 7; have ff8 := fr_of B3 8; have ff9 := fr_of B3 9; have cb := blk10 B3
     go_wp2_with fail
     rw [← HWb.out]; clear HWb cb ff0 ff1 ff2 ff3 ff4 ff5 ff6 ff7 ff8 ff9; replace hch := hch.trans (hcb.mono (fun b h => .inr h)); refine ⟨⟨⟨_, hch⟩, rfl⟩, ?_⟩; replace RA := Own.at1g RA hcb (by omega); replace u_RA := Nat.le_trans u_RA hcb.size; replace RL := Own.at1g RL hcb (by omega); replace u_RL := Nat.le_trans u_RL hcb.size; replace R0 := Own.at1g R0 hcb (by omega); replace u_R0 := Nat.le_trans u_R0 hcb.size; replace R1 := Own.at1g R1 hcb (by omega); replace u_R1 := Nat.le_trans u_R1 hcb.size; replace P0 := Own.at1g P0 hcb (by omega); replace u_P0 := Nat.le_trans u_P0 hcb.size; replace P1 := Own.at1g P1 hcb (by omega); replace u_P1 := Nat.le_trans u_P1 hcb.size; replace B2 := hcb.blkS B2 (by unfold at1; omega); replace B6 := hcb.blkS B6 (by unfold at1; omega); replace B7 := hcb.blkS B7 (by unfold at1; omega); replace B11 := hcb.blkS B11 (by unfold at1; omega); replace B3 := hbb; clear hbb; replace s := s.put hcb (fun i hi => by have h1 : i = (w.heap.size + 1) := hi; omega)
     try clear hcb
     repeat (first | go_big_quiet_step (fail) | quiet_step (fail))
     refine wpQuiet_nil ?_; refine NoPanic.normal ?_; clear hch q0 q1 q2 q3 q4 q5 q6 q7 q8 q9 q10 q11; have cr_B2 := blk2 B2; have cr_B3 := blk10 B3; have cr_B6 := blk2 B6; have cr_B7 := blk10 B7; have cr_B11 := blk12 B11; have hszE := s.x.size
     go_wp2_with fail
     refine bodyPost_ret (v := .tuple #[.agg #[.slice o1 t.ases.length c1, .slice o2 t.links.length c2], .agg #[.int .i64 y.kind, .int .i64 y.src, .int .i64 y.dst, .slice o_0y y.path.parts.length c_0y, .int .i64 y.pi, .int .i64 y.hi, .int .i64 y.beta, .int .i64 y.rid, .int .i64 y.seq, .slice o_1y y.pay.length c_1y], .int .i64 ry, .int .i64 iy]) (by simp [results, Tryz.results176, go_sem, cr_B2, cr_B3]) rfl ?_; exact ⟨_, _, _, _, t, y, ry, iy, rfl, TK, hyb, (Own.upTo (Own.lo RA (by omega)) (Nat.le_refl _)), (Own.upTo (Own.lo RL (by omega)) (Nat.le_refl _)), (Own.upTo (Own.lo R0 (by omega)) (Nat.le_refl _)), (Own.upTo (Own.lo R1 (by omega)) (Nat.le_refl _)), s.c, s.x⟩
   ·
    have hr1 : decide (0 ≤ ry) = false := decide_eq_false hr0; clear hr0; have cb_B2 := blk2 B2; have cb_B3 := blk10 B3; have cb_B6 := blk2 B6; have cb_B7 := blk10 B7
    go_upto_region 14 with (fail)
    clear cb_B2 cb_B3 cb_B6 cb_B7; refine wp_region_fin (fun k => k = w.heap.size ∨ k = w.heap.size + 1) [([0, 1, 2, 3], 4), ([], 5)] [6, 7] [] (by kernel_rfl) (by kernel_rfl) (by kernel_rfl) ?_; have ch_B6 := blk2 B6; have q0 := ChgSW.cell (S := fun k => k = w.heap.size ∨ k = w.heap.size + 1) (ch_B6.1) (by first | (unfold at1; simp only; omega) | (simp only; omega)); have q1 := ChgSW.cell (S := fun k => k = w.heap.size ∨ k = w.heap.size + 1) (ch_B6.2) (by first | (unfold at1; simp only; omega) | (simp only; omega)); clear ch_B6; have ch_B7 := blk10 B7; have q2 := ChgSW.cell (S := fun k => k = w.heap.size ∨ k = w.heap.size + 1) (ch_B7.1) (by first | (unfold at1; simp only; omega) | (simp only; omega)); have q3 := ChgSW.cell (S := fun k => k = w.heap.size ∨ k = w.heap.size + 1) (ch_B7.2.1) (by first | (unfold at1; simp only; omega) | (simp only; omega)); have q4 := ChgSW.cell (S := fun k => k = w.heap.size ∨ k = w.heap.size + 1) (ch_B7.2.2.1) (by first | (unfold at1; simp only; omega) | (simp only; omega)); have q5 := ChgSW.cell (S := fun k => k = w.heap.size ∨ k = w.heap.size + 1) (ch_B7.2.2.2.1) (by first | (unfold at1; simp only; omega) | (simp only; omega)); have q6 := ChgSW.cell (S := fun k => k = w.heap.size ∨ k = w.heap.size + 1) (ch_B7.2.2.2.2.1) (by first | (unfold at1; simp only; omega) | (simp only; omega)); have q7 := ChgSW.cell (S := fun k => k = w.heap.size ∨ k = w.heap.size + 1) (ch_B7.2.2.2.2.2.1) (by first | (unfold at1; simp only; omega) | (simp only; omega))
    have q8 := ChgSW.cell (S := fun k => k = w.heap.size ∨ k = w.heap.size + 1) (ch_B7.2.2.2.2.2.2.1) (by first | (unfold at1; simp only; omega) | (simp only; omega)); have q9 := ChgSW.cell (S := fun k => k = w.heap.size ∨ k = w.heap.size + 1) (ch_B7.2.2.2.2.2.2.2.1) (by first | (unfold at1; simp only; omega) | (simp only; omega)); have q10 := ChgSW.cell (S := fun k => k = w.heap.size ∨ k = w.heap.size + 1) (ch_B7.2.2.2.2.2.2.2.2.1) (by first | (unfold at1; simp only; omega) | (simp only; omega)); have q11 := ChgSW.cell (S := fun k => k = w.heap.size ∨ k = w.heap.size + 1) (ch_B7.2.2.2.2.2.2.2.2.2) (by first | (unfold at1; simp only; omega) | (simp only; omega)); clear ch_B7; simp only [wpBlocksX, pickOps, PK]; have hch : Chg (fun k => k = w.heap.size ∨ k = w.heap.size + 1) wz wz.drew := Chg.ofExt (Ext.refl wz).drew; replace B2 := Ext.block ((Ext.refl wz).drew) B2; replace B3 := Ext.block ((Ext.refl wz).drew) B3; replace B6 := Ext.block ((Ext.refl wz).drew) B6; replace B7 := Ext.block ((Ext.refl wz).drew) B7; replace RA := Own.ext RA ((Ext.refl wz).drew); replace u_RA := Nat.le_trans u_RA ((Ext.refl wz).drew).size; replace RL := Own.ext RL ((Ext.refl wz).drew); replace u_RL := Nat.le_trans u_RL ((Ext.refl wz).drew).size; replace R0 := Own.ext R0 ((Ext.refl wz).drew); replace u_R0 := Nat.le_trans u_R0 ((Ext.refl wz).drew).size; replace R1 := Own.ext R1 ((Ext.refl wz).drew); replace u_R1 := Nat.le_trans u_R1 ((Ext.refl wz).drew).size; replace s := s.ext ((Ext.refl wz).drew)
    obtain ⟨wt, hnw⟩ : ∃ wn, wn = wz.drew := ⟨_, rfl⟩
    rw [← hnw] at B2 B3 B6 B7 RA RL R0 R1 u_RA u_RL u_R0 u_R1 s hch ⊢
    clear hnw
    repeat (first | go_big_quiet_step (fail) | quiet_step (fail))
    refine wpQuiet_nil ?_; obtain ⟨wpa, hwa, hba, hca⟩ := two_set B2 (.slice o1 t.ases.length c1) (.slice o2 t.links.length c2); have HWa := Lib.hid hwa; clear hwa; have ff0 := fr_of B2 0; have ff1 := fr_of B2 1; have cb := blk2 B2
    go_wp2_with fail
    rw [← HWa.out]; clear HWa cb ff0 ff1; replace hch := hch.trans (hca.mono (fun b h => .inl h)); refine ⟨⟨⟨_, hch⟩, rfl⟩, ?_⟩; replace RA := Own.at1g RA hca (by omega); replace u_RA := Nat.le_trans u_RA hca.size; replace RL := Own.at1g RL hca (by omega); replace u_RL := Nat.le_trans u_RL hca.size; replace R0 := Own.at1g R0 hca (by omega); replace u_R0 := Nat.le_trans u_R0 hca.size; replace R1 := Own.at1g R1 hca (by omega); replace u_R1 := Nat.le_trans u_R1 hca.size; replace B3 := hca.blkS B3 (by unfold at1; omega); replace B6 := hca.blkS B6 (by unfold at1; omega); replace B7 := hca.blkS B7 (by unfold at1; omega); replace B2 := hba; clear hba; replace s := s.put hca (fun i hi => by have h1 : i = w.heap.size := hi; omega)
    try clear hca
    repeat (first | go_big_quiet_step (fail) | quiet_step (fail))
    refine wpQuiet_nil ?_; obtain ⟨wpb, hwb, hbb, hcb⟩ := ten_set B3 (.int .i64 y.kind) (.int .i64 y.src) (.int .i64 y.dst) (.slice o_0y y.path.parts.length c_0y) (.int .i64 y.pi) (.int .i64 y.hi) (.int .i64 y.beta) (.int .i64 y.rid) (.int .i64 y.seq) (.slice o_1y y.pay.length c_1y); have HWb := Lib.hid hwb; clear hwb; have ff0 := fr_of B3 0; have ff1 := fr_of B3 1; have ff2 := fr_of B3 2; have ff3 := fr_of B3 3; have ff4 := fr_of B3 4; have ff5 := fr_of B3 5; have ff6 := fr_of B3 6; have ff7 := fr_of B3 7; have ff8 := fr_of B3 8; have ff9 := fr_of B3 9; have cb := blk10 B3
    go_wp2_with fail
    rw [← HWb.out]; clear HWb cb ff0 ff1 ff2 ff3 ff4 ff5 ff6 ff7 ff8 ff9; replace hch := hch.trans (hcb.mono (fun b h => .inr h)); refine ⟨⟨⟨_, hch⟩, rfl⟩, ?_⟩; replace RA := Own.at1g RA hcb (by omega); replace u_RA := Nat.le_trans u_RA hcb.size; replace RL := Own.at1g RL hcb (by omega); replace u_RL := Nat.le_trans u_RL hcb.size; replace R0 := Own.at1g R0 hcb (by omega); replace u_R0 := Nat.le_trans u_R0 hcb.size; replace R1 := Own.at1g R1 hcb (by omega); replace u_R1 := Nat.le_trans u_R1 hcb.size; replace B2 := hcb.blkS B2 (by unfold at1; omega); replace B6 := hcb.blkS B6 (by unfold at1; omega); replace B7 := hcb.blkS B7 (by unfold at1; omega); replace B3 := hbb; clear hbb; replace s := s.put hcb (fun i hi => by have h1 : i = (w.heap.size + 1) := hi; omega)
    try clear hcb
    repeat (first | go_big_quiet_step (fail) | quiet_step (fail))
    refine wpQuiet_nil ?_; refine NoPanic.normal ?_; clear hch q0 q1 q2 q3 q4 q5 q6 q7 q8 q9 q10 q11; have cr_B2 := blk2 B2; have cr_B3 := blk10 B3; have cr_B6 := blk2 B6; have cr_B7 := blk10 B7; have hszE := s.x.size
    go_wp2_with fail
    refine bodyPost_ret (v := .tuple #[.agg #[.slice o1 t.ases.length c1, .slice o2 t.links.length c2], .agg #[.int .i64 y.kind, .int .i64 y.src, .int .i64 y.dst, .slice o_0y y.path.parts.length c_0y, .int .i64 y.pi, .int .i64 y.hi, .int .i64 y.beta, .int .i64 y.rid, .int .i64 y.seq, .slice o_1y y.pay.length c_1y], .int .i64 ry, .int .i64 iy]) (by simp [results, Tryz.results176, go_sem, cr_B2, cr_B3]) rfl ?_; exact ⟨_, _, _, _, t, y, ry, iy, rfl, TK, hyb, (Own.upTo (Own.lo RA (by omega)) (Nat.le_refl _)), (Own.upTo (Own.lo RL (by omega)) (Nat.le_refl _)), (Own.upTo (Own.lo R0 (by omega)) (Nat.le_refl _)), (Own.upTo (Own.lo R1 (by omega)) (Nat.le_refl _)), s.c, s.x⟩
  ·
   have hg1 : ¬ (0 : Int) < (gq : Int) := by omega
   have cb_B2 := blk2 B2; have cb_B3 := blk10 B3; have cb_B6 := blk2 B6; have cb_B7 := blk10 B7
   go_upto_region 14 with (fail)
   clear cb_B2 cb_B3 cb_B6 cb_B7; refine wp_region_fin (fun k => k = w.heap.size ∨ k = w.heap.size + 1) [([0, 1, 2, 3], 4), ([], 5)] [6, 7] [] (by kernel_rfl) (by kernel_rfl) (by kernel_rfl) ?_; have ch_B6 := blk2 B6; have q0 := ChgSW.cell (S := fun k => k = w.heap.size ∨ k = w.heap.size + 1) (ch_B6.1) (by first | (unfold at1; simp only; omega) | (simp only; omega)); have q1 := ChgSW.cell (S := fun k => k = w.heap.size ∨ k = w.heap.size + 1) (ch_B6.2) (by first | (unfold at1; simp only; omega) | (simp only; omega)); clear ch_B6; have ch_B7 := blk10 B7; have q2 := ChgSW.cell (S := fun k => k = w.heap.size ∨ k = w.heap.size + 1) (ch_B7.1) (by first | (unfold at1; simp only; omega) | (simp only; omega)); have q3 := ChgSW.cell (S := fun k => k = w.heap.size ∨ k = w.heap.size + 1) (ch_B7.2.1) (by first | (unfold at1; simp only; omega) | (simp only; omega)); have q4 := ChgSW.cell (S := fun k => k = w.heap.size ∨ k = w.heap.size + 1) (ch_B7.2.2.1) (by first | (unfold at1; simp only; omega) | (simp only; omega)); have q5 := ChgSW.cell (S := fun k => k = w.heap.size ∨ k = w.heap.size + 1) (ch_B7.2.2.2.1) (by first | (unfold at1; simp only; omega) | (simp only; omega)); have q6 := ChgSW.cell (S := fun k => k = w.heap.size ∨ k = w.heap.size + 1) (ch_B7.2.2.2.2.1) (by first | (unfold at1; simp only; omega) | (simp only; omega)); have q7 := ChgSW.cell (S := fun k => k = w.heap.size ∨ k = w.heap.size + 1) (ch_B7.2.2.2.2.2.1) (by first | (unfold at1; simp only; omega) | (simp only; omega))
   have q8 := ChgSW.cell (S := fun k => k = w.heap.size ∨ k = w.heap.size + 1) (ch_B7.2.2.2.2.2.2.1) (by first | (unfold at1; simp only; omega) | (simp only; omega)); have q9 := ChgSW.cell (S := fun k => k = w.heap.size ∨ k = w.heap.size + 1) (ch_B7.2.2.2.2.2.2.2.1) (by first | (unfold at1; simp only; omega) | (simp only; omega)); have q10 := ChgSW.cell (S := fun k => k = w.heap.size ∨ k = w.heap.size + 1) (ch_B7.2.2.2.2.2.2.2.2.1) (by first | (unfold at1; simp only; omega) | (simp only; omega)); have q11 := ChgSW.cell (S := fun k => k = w.heap.size ∨ k = w.heap.size + 1) (ch_B7.2.2.2.2.2.2.2.2.2) (by first | (unfold at1; simp only; omega) | (simp only; omega)); clear ch_B7; simp only [wpBlocksX, pickOps, PK]; have hch : Chg (fun k => k = w.heap.size ∨ k = w.heap.size + 1) wz wz.drew := Chg.ofExt (Ext.refl wz).drew; replace B2 := Ext.block ((Ext.refl wz).drew) B2; replace B3 := Ext.block ((Ext.refl wz).drew) B3; replace B6 := Ext.block ((Ext.refl wz).drew) B6; replace B7 := Ext.block ((Ext.refl wz).drew) B7; replace RA := Own.ext RA ((Ext.refl wz).drew); replace u_RA := Nat.le_trans u_RA ((Ext.refl wz).drew).size; replace RL := Own.ext RL ((Ext.refl wz).drew); replace u_RL := Nat.le_trans u_RL ((Ext.refl wz).drew).size; replace R0 := Own.ext R0 ((Ext.refl wz).drew); replace u_R0 := Nat.le_trans u_R0 ((Ext.refl wz).drew).size; replace R1 := Own.ext R1 ((Ext.refl wz).drew); replace u_R1 := Nat.le_trans u_R1 ((Ext.refl wz).drew).size; replace s := s.ext ((Ext.refl wz).drew)
   obtain ⟨wt, hnw⟩ : ∃ wn, wn = wz.drew := ⟨_, rfl⟩
   rw [← hnw] at B2 B3 B6 B7 RA RL R0 R1 u_RA u_RL u_R0 u_R1 s hch ⊢
   clear hnw
   repeat (first | go_big_quiet_step (fail) | quiet_step (fail))
   refine wpQuiet_nil ?_; obtain ⟨wpa, hwa, hba, hca⟩ := two_set B2 (.slice o1 t.ases.length c1) (.slice o2 t.links.length c2); have HWa := Lib.hid hwa; clear hwa; have ff0 := fr_of B2 0; have ff1 := fr_of B2 1; have cb := blk2 B2
   go_wp2_with fail
   rw [← HWa.out]; clear HWa cb ff0 ff1; replace hch := hch.trans (hca.mono (fun b h => .inl h)); refine ⟨⟨⟨_, hch⟩, rfl⟩, ?_⟩; replace RA := Own.at1g RA hca (by omega); replace u_RA := Nat.le_trans u_RA hca.size; replace RL := Own.at1g RL hca (by omega); replace u_RL := Nat.le_trans u_RL hca.size; replace R0 := Own.at1g R0 hca (by omega); replace u_R0 := Nat.le_trans u_R0 hca.size; replace R1 := Own.at1g R1 hca (by omega); replace u_R1 := Nat.le_trans u_R1 hca.size; replace B3 := hca.blkS B3 (by unfold at1; omega); replace B6 := hca.blkS B6 (by unfold at1; omega); replace B7 := hca.blkS B7 (by unfold at1; omega); replace B2 := hba; clear hba; replace s := s.put hca (fun i hi => by have h1 : i = w.heap.size := hi; omega)
   try clear hca
   repeat (first | go_big_quiet_step (fail) | quiet_step (fail))
   refine wpQuiet_nil ?_; obtain ⟨wpb, hwb, hbb, hcb⟩ := ten_set B3 (.int .i64 y.kind) (.int .i64 y.src) (.int .i64 y.dst) (.slice o_0y y.path.parts.length c_0y) (.int .i64 y.pi) (.int .i64 y.hi) (.int .i64 y.beta) (.int .i64 y.rid) (.int .i64 y.seq) (.slice o_1y y.pay.length c_1y); have HWb := Lib.hid hwb; clear hwb; have ff0 := fr_of B3 0; have ff1 := fr_of B3 1; have ff2 := fr_of B3 2; have ff3 := fr_of B3 3; have ff4 := fr_of B3 4; have ff5 := fr_of B3 5; have ff6 := fr_of B3 6; have ff7 := fr_of B3 7; have ff8 := fr_of B3 8; have ff9 := fr_of B3 9; have cb := blk10 B3
   go_wp2_with fail
   rw [← HWb.out]; clear HWb cb ff0 ff1 ff2 ff3 ff4 ff5 ff6 ff7 ff8 ff9; replace hch := hch.trans (hcb.mono (fun b h => .inr h)); refine ⟨⟨⟨_, hch⟩, rfl⟩, ?_⟩; replace RA := Own.at1g RA hcb (by omega); replace u_RA := Nat.le_trans u_RA hcb.size; replace RL := Own.at1g RL hcb (by omega); replace u_RL := Nat.le_trans u_RL hcb.size; replace R0 := Own.at1g R0 hcb (by omega); replace u_R0 := Nat.le_trans u_R0 hcb.size; replace R1 := Own.at1g R1 hcb (by omega); replace u_R1 := Nat.le_trans u_R1 hcb.size; replace B2 := hcb.blkS B2 (by unfold at1; omega); replace B6 := hcb.blkS B6 (by unfold at1; omega); replace B7 := hcb.blkS B7 (by unfold at1; omega); replace B3 := hbb; clear hbb; replace s := s.put hcb (fun i hi => by have h1 : i = (w.heap.size + 1) := hi; omega)
   try clear hcb
   repeat (first | go_big_quiet_step (fail) | quiet_step (fail))
   refine wpQuiet_nil ?_; refine NoPanic.normal ?_; clear hch q0 q1 q2 q3 q4 q5 q6 q7 q8 q9 q10 q11; have cr_B2 := blk2 B2; have cr_B3 := blk10 B3; have cr_B6 := blk2 B6; have cr_B7 := blk10 B7; have hszE := s.x.size
   go_wp2_with fail
   refine bodyPost_ret (v := .tuple #[.agg #[.slice o1 t.ases.length c1, .slice o2 t.links.length c2], .agg #[.int .i64 y.kind, .int .i64 y.src, .int .i64 y.dst, .slice o_0y y.path.parts.length c_0y, .int .i64 y.pi, .int .i64 y.hi, .int .i64 y.beta, .int .i64 y.rid, .int .i64 y.seq, .slice o_1y y.pay.length c_1y], .int .i64 ry, .int .i64 iy]) (by simp [results, Tryz.results176, go_sem, cr_B2, cr_B3]) rfl ?_; exact ⟨_, _, _, _, t, y, ry, iy, rfl, TK, hyb, (Own.upTo (Own.lo RA (by omega)) (Nat.le_refl _)), (Own.upTo (Own.lo RL (by omega)) (Nat.le_refl _)), (Own.upTo (Own.lo R0 (by omega)) (Nat.le_refl _)), (Own.upTo (Own.lo R1 (by omega)) (Nat.le_refl _)), s.c, s.x⟩
set_option maxRecDepth 100000 in
set_option maxHeartbeats 40000000 in
theorem s_l28One (code : List Int) (cv : Value) (w : World) (hr : RdS Rep.byte w cv code) (hu : ∀ x ∈ code, U8 x) (hl : code.length ≤ 1048576) :
  Calls Tryz.prog 104 #[cv] w fun e w' => ∃ (g lo1 : Nat) (v1 v2 u0 u1 : Value) (t : Topo) (x : Pkt) (r inn : Int), e = .returned (.tuple #[.pointer (some ⟨g, 0, none⟩), .agg #[v1, v2], .agg #[.int .i64 x.kind, .int .i64 x.src, .int .i64 x.dst, u0, .int .i64 x.pi, .int .i64 x.hi, .int .i64 x.beta, .int .i64 x.rid, .int .i64 x.seq, u1], .int .i64 r, .int .i64 inn]) ∧ TopoOk t ∧ PktBd x ∧ (Own.keep ASd.rep).own (rng lo1 w'.heap.size) w' v1 t.ases ∧ (Own.keep Lnk.rep).own (rng lo1 w'.heap.size) w' v2 t.links ∧ (Own.keep Part.rep).own (rng lo1 w'.heap.size) w' u0 x.path.parts ∧ (Own.keep Rep.byte).own (rng lo1 w'.heap.size) w' u1 x.pay ∧ w.heap.size ≤ g ∧ g < lo1 ∧ Cur g cv code w' ∧ Ext w w' := by
 have hx0 := ext2 w (.cells #[.slice none 0 0, .slice none 0 0] 56) (.cells #[.int .i64 0, .int .i64 0, .int .i64 0, .slice none 0 0, .int .i64 0, .int .i64 0, .int .i64 0, .int .i64 0, .int .i64 0, .slice none 0 0] 58); have HB := al2 w (.cells #[.slice none 0 0, .slice none 0 0] 56) (.cells #[.int .i64 0, .int .i64 0, .int .i64 0, .slice none 0 0, .int .i64 0, .int .i64 0, .int .i64 0, .int .i64 0, .int .i64 0, .slice none 0 0] 58)
 go_enter Tryz.func104, Tryz.ntmps104
 go_wp2_with fail
 refine (s_l1New code _ _ (hr.ext hx0) hu hl).mono ?_; rintro e w1 ⟨g, rfl, hgl, hc1, hn1⟩; have hgw := hc1.lt
 have s : DSt g cv code w1 w1 := ⟨hc1, Chg.refl _ _, hc1⟩
 have B3 := Ext.block hn1 HB.1; have B4 := Ext.block hn1 HB.2; have hgr : (w.heap.size + 1) < g := by simp at hgl; omega
 clear HB; clear hc1; have cb_B3 := blk2 B3; have cb_B4 := blk10 B4
 go_wp2_with fail
 clear cb_B3 cb_B4; have hbs : w1.heap.size ≤ w1.heap.size := s.x.size; have ltq_B3 : w.heap.size < w1.heap.size := blk_lt B3; have ltq_B4 : (w.heap.size + 1) < w1.heap.size := blk_lt B4; refine (s_l28Draw g _ _ _ s.c).mono ?_; rintro e w2 ⟨v1, v2, u0, u1, t, x, r, inn, rfl, TK, hxb, RA, RL, R0, R1, hcq, hzq⟩; replace B3 := hzq.blkS B3 (by unfold at1; omega); replace B4 := hzq.blkS B4 (by unfold at1; omega); replace s := s.draw hcq hzq; obtain ⟨o1, c1, rfl, _⟩ := RdS.shape (Own.rd _ RA); obtain ⟨o2, c2, rfl, _⟩ := RdS.shape (Own.rd _ RL); obtain ⟨o_0, c_0, rfl, _⟩ := RdS.shape (Own.rd _ R0); obtain ⟨o_1, c_1, rfl, _⟩ := RdS.shape (Own.rd _ R1); have g_RA : g < w1.heap.size := by omega
 have u_RA : w2.heap.size ≤ w2.heap.size := by omega
 have lt_B3_RA : w.heap.size < w1.heap.size := by omega
 have lt_B4_RA : (w.heap.size + 1) < w1.heap.size := by omega
 have g_RL : g < w1.heap.size := by omega
 have u_RL : w2.heap.size ≤ w2.heap.size := by omega
 have lt_B3_RL : w.heap.size < w1.heap.size := by omega
 have lt_B4_RL : (w.heap.size + 1) < w1.heap.size := by omega
 have g_R0 : g < w1.heap.size := by omega
 have u_R0 : w2.heap.size ≤ w2.heap.size := by omega
 have lt_B3_R0 : w.heap.size < w1.heap.size := by omega
 have lt_B4_R0 : (w.heap.size + 1) < w1.heap.size := by omega
 have g_R1 : g < w1.heap.size := by omega
 have u_R1 : w2.heap.size ≤ w2.heap.size := by omega
 have lt_B3_R1 : w.heap.size < w1.heap.size := by omega
 have lt_B4_R1 : (w.heap.size + 1) < w1.heap.size := by omega
 clear hzq hcq hbs ltq_B3 ltq_B4; have cb_B3 := blk2 B3; have cb_B4 := blk10 B4
 go_upto_region 3 with (fail)
 clear cb_B3 cb_B4; have hxa := ext2 w2 (.cells #[.slice o1 t.ases.length c1, .slice o2 t.links.length c2] 56) (.cells #[.int .i64 x.kind, .int .i64 x.src, .int .i64 x.dst, .slice o_0 x.path.parts.length c_0, .int .i64 x.pi, .int .i64 x.hi, .int .i64 x.beta, .int .i64 x.rid, .int .i64 x.seq, .slice o_1 x.pay.length c_1] 58); have BB := al2 w2 (.cells #[.slice o1 t.ases.length c1, .slice o2 t.links.length c2] 56) (.cells #[.int .i64 x.kind, .int .i64 x.src, .int .i64 x.dst, .slice o_0 x.path.parts.length c_0, .int .i64 x.pi, .int .i64 x.hi, .int .i64 x.beta, .int .i64 x.rid, .int .i64 x.seq, .slice o_1 x.pay.length c_1] 58)
 obtain ⟨b8, eb8⟩ : ∃ b, b = w2.heap.size := ⟨_, rfl⟩
 have ltw_b8 : w1.heap.size ≤ b8 := by rw [eb8]; exact s.x.size
 have lt_B3_b8 : w.heap.size < b8 := by rw [eb8]; exact blk_lt B3
 have lt_B4_b8 : (w.heap.size + 1) < b8 := by rw [eb8]; exact blk_lt B4
 have hb_RA_b8 : w2.heap.size ≤ b8 := by rw [eb8]; exact u_RA
 have hb_RL_b8 : w2.heap.size ≤ b8 := by rw [eb8]; exact u_RL
 have hb_R0_b8 : w2.heap.size ≤ b8 := by rw [eb8]; exact u_R0
 have hb_R1_b8 : w2.heap.size ≤ b8 := by rw [eb8]; exact u_R1
 replace B3 := Ext.block hxa B3; replace B4 := Ext.block hxa B4; replace RA := Own.ext RA hxa; replace u_RA := Nat.le_trans u_RA hxa.size; replace RL := Own.ext RL hxa; replace u_RL := Nat.le_trans u_RL hxa.size; replace R0 := Own.ext R0 hxa; replace u_R0 := Nat.le_trans u_R0 hxa.size; replace R1 := Own.ext R1 hxa; replace u_R1 := Nat.le_trans u_R1 hxa.size; replace s := s.ext hxa; have B8 := BB.1; have B9 := BB.2; rw [← eb8] at B8 B9; rw [← eb8]; clear hxa BB; generalize ((w2.alloc (.cells #[.slice o1 t.ases.length c1, .slice o2 t.links.length c2] 56)).alloc (.cells #[.int .i64 x.kind, .int .i64 x.src, .int .i64 x.dst, .slice o_0 x.path.parts.length c_0, .int .i64 x.pi, .int .i64 x.hi, .int .i64 x.beta, .int .i64 x.rid, .int .i64 x.seq, .slice o_1 x.pay.length c_1] 58)) = wa at B3 B4 B8 B9 RA RL R0 R1 u_RA u_RL u_R0 u_R1 s ⊢
 clear eb8; have cb_B3 := blk2 B3; have cb_B4 := blk10 B4; have cb_B8 := blk2 B8; have cb_B9 := blk10 B9
 go_wp2_with fail
 clear cb_B3 cb_B4 cb_B8 cb_B9; refine (s_l1Once g (5) _ _ _ s.c).mono ?_; rintro e w3 ⟨b1, rfl, hcq, hzq⟩; replace B3 := hzq.blkS B3 (by unfold at1; omega); replace B4 := hzq.blkS B4 (by unfold at1; omega); replace B8 := hzq.blkS B8 (by unfold at1; omega); replace B9 := hzq.blkS B9 (by unfold at1; omega); replace RA := Own.at1g RA hzq (.inl g_RA); replace u_RA := Nat.le_trans u_RA hzq.size; replace RL := Own.at1g RL hzq (.inl g_RL); replace u_RL := Nat.le_trans u_RL hzq.size; replace R0 := Own.at1g R0 hzq (.inl g_R0); replace u_R0 := Nat.le_trans u_R0 hzq.size; replace R1 := Own.at1g R1 hzq (.inl g_R1); replace u_R1 := Nat.le_trans u_R1 hzq.size; replace s := s.draw hcq hzq; clear hzq hcq; have cb_B3 := blk2 B3; have cb_B4 := blk10 B4; have cb_B8 := blk2 B8; have cb_B9 := blk10 B9
 go_upto_if 22 with (fail)
 clear cb_B3 cb_B4 cb_B8 cb_B9
 go_cut [10] (fun v10 wx => ∃ (tq : Topo) (xq : Pkt) (rq : Int) (o1q : Option Addr) (c1q : Nat) (o2q : Option Addr) (c2q : Nat) (o_0q : Option Addr) (c_0q : Nat) (o_1q : Option Addr) (c_1q : Nat) (lo : Nat) (hi : Nat), (v10 = .int .i64 rq) ∧ (TopoOk tq) ∧ (PktBd xq) ∧ (g < lo) ∧ (w.heap.size + 1 < lo) ∧ wx.heap[w.heap.size]? = some (.cells #[.slice none 0 0, .slice none 0 0] 56 (0, 0)) ∧ wx.heap[(w.heap.size + 1)]? = some (.cells #[.int .i64 0, .int .i64 0, .int .i64 0, .slice none 0 0, .int .i64 0, .int .i64 0, .int .i64 0, .int .i64 0, .int .i64 0, .slice none 0 0] 58 (0, 0)) ∧ wx.heap[b8]? = some (.cells #[.slice o1q tq.ases.length c1q, .slice o2q tq.links.length c2q] 56 (0, 0)) ∧ wx.heap[(b8 + 1)]? = some (.cells #[.int .i64 xq.kind, .int .i64 xq.src, .int .i64 xq.dst, .slice o_0q xq.path.parts.length c_0q, .int .i64 xq.pi, .int .i64 xq.hi, .int .i64 xq.beta, .int .i64 xq.rid, .int .i64 xq.seq, .slice o_1q xq.pay.length c_1q] 58 (0, 0)) ∧ ((Own.keep ASd.rep).own (rng lo hi) wx (.slice o1q tq.ases.length c1q) tq.ases ∧ hi ≤ wx.heap.size) ∧ ((Own.keep Lnk.rep).own (rng lo hi) wx (.slice o2q tq.links.length c2q) tq.links ∧ hi ≤ wx.heap.size) ∧ ((Own.keep Part.rep).own (rng lo hi) wx (.slice o_0q xq.path.parts.length c_0q) xq.path.parts ∧ hi ≤ wx.heap.size) ∧ ((Own.keep Rep.byte).own (rng lo hi) wx (.slice o_1q xq.pay.length c_1q) xq.pay ∧ hi ≤ wx.heap.size) ∧ Cur g cv code wx ∧ Chg (at1 g) w1 wx)
 case first =>
  cases b1
  case false =>
   go_wp2_with fail
   go_meet
   exact ⟨t, x, r, _, _, _, _, _, _, _, _, _, _, rfl, TK, hxb, g_RA, lt_B4_RA, B3, B4, B8, B9, ⟨RA, u_RA⟩, ⟨RL, u_RL⟩, ⟨R0, u_R0⟩, ⟨R1, u_R1⟩, s.c, s.x⟩
  case true =>
   have cb_B3 := blk2 B3; have cb_B4 := blk10 B4; have cb_B8 := blk2 B8; have cb_B9 := blk10 B9
   go_wp2_with fail
   clear cb_B3 cb_B4 cb_B8 cb_B9; have hbs : w1.heap.size ≤ w3.heap.size := s.x.size; have ltq_B3 : w.heap.size < w3.heap.size := blk_lt B3; have ltq_B4 : (w.heap.size + 1) < w3.heap.size := blk_lt B4; have ltq_B8 : b8 < w3.heap.size := blk_lt B8; have ltq_B9 : (b8 + 1) < w3.heap.size := blk_lt B9; refine (s_l26Any g _ _ _ s.c).mono ?_; rintro e w4 ⟨v1n, v2n, u0n, u1n, tn, xn, rfl, TKn, hxbn, RAn, RLn, R0n, R1n, hcq, hzq⟩; replace B3 := hzq.blkS B3 (by unfold at1; omega); replace B4 := hzq.blkS B4 (by unfold at1; omega); replace B8 := hzq.blkS B8 (by unfold at1; omega); replace B9 := hzq.blkS B9 (by unfold at1; omega); replace RA := Own.at1g RA hzq (.inl g_RA); replace u_RA := Nat.le_trans u_RA hzq.size; replace RL := Own.at1g RL hzq (.inl g_RL); replace u_RL := Nat.le_trans u_RL hzq.size; replace R0 := Own.at1g R0 hzq (.inl g_R0); replace u_R0 := Nat.le_trans u_R0 hzq.size; replace R1 := Own.at1g R1 hzq (.inl g_R1); replace u_R1 := Nat.le_trans u_R1 hzq.size; replace s := s.draw hcq hzq; obtain ⟨o1n, c1n, rfl, _⟩ := RdS.shape (Own.rd _ RAn); obtain ⟨o2n, c2n, rfl, _⟩ := RdS.shape (Own.rd _ RLn); obtain ⟨o_0n, c_0n, rfl, _⟩ := RdS.shape (Own.rd _ R0n); obtain ⟨o_1n, c_1n, rfl, _⟩ := RdS.shape (Own.rd _ R1n); have g_RAn : g < w3.heap.size := by omega
   have u_RAn : w4.heap.size ≤ w4.heap.size := by omega
   have lt_B3_RAn : w.heap.size < w3.heap.size := by omega
   have lt_B4_RAn : (w.heap.size + 1) < w3.heap.size := by omega
   have lt_B8_RAn : b8 < w3.heap.size := by omega
   have lt_B9_RAn : (b8 + 1) < w3.heap.size := by omega
   have g_RLn : g < w3.heap.size := by omega
   have u_RLn : w4.heap.size ≤ w4.heap.size := by omega
   have lt_B3_RLn : w.heap.size < w3.heap.size := by omega
   have lt_B4_RLn : (w.heap.size + 1) < w3.heap.size := by omega
   have lt_B8_RLn : b8 < w3.heap.size := by omega
   have lt_B9_RLn : (b8 + 1) < w3.heap.size := by omega
   have g_R0n : g < w3.heap.size := by omega
   have u_R0n : w4.heap.size ≤ w4.heap.size := by omega
   have lt_B3_R0n : w.heap.size < w3.heap.size := by omega
   have lt_B4_R0n : (w.heap.size + 1) < w3.heap.size := by omega
   have lt_B8_R0n : b8 < w3.heap.size := by omega
   have lt_B9_R0n : (b8 + 1) < w3.heap.size := by omega
   have g_R1n : g < w3.heap.size := by omega
   have u_R1n : w4.heap.size ≤ w4.heap.size := by omega
   have lt_B3_R1n : w.heap.size < w3.heap.size := by omega
   have lt_B4_R1n : (w.heap.size + 1) < w3.heap.size := by omega
   have lt_B8_R1n : b8 < w3.heap.size := by omega
   have lt_B9_R1n : (b8 + 1) < w3.heap.size := by omega
   clear hzq hcq hbs ltq_B3 ltq_B4 ltq_B8 ltq_B9; obtain ⟨wpc, hwc, hbc, hcc⟩ := two_set B8 (.slice o1n tn.ases.length c1n) (.slice o2n tn.links.length c2n); have HWc := Lib.hid hwc; clear hwc; have fc0 := fr_of B8 0; have fc1 := fr_of B8 1; have fk0 := fr_of B9 0; have fk1 := fr_of B9 1; have fk2 := fr_of B9 2; have fk3 := fr_of B9 3; have fk4 := fr_of B9 4; have fk5 := fr_of B9 5; have fk6 := fr_of B9 6; have fk7 := fr_of B9 7; have fk8 := fr_of B9 8; have fk9 := fr_of B9 9; have cb_B3 := blk2 B3; have cb_B4 := blk10 B4; have cb_B8 := blk2 B8; have cb_B9 := blk10 B9
   go_upto_region 5 with (fail)
   clear cb_B3 cb_B4 cb_B8 cb_B9; rw [← HWc.out]; clear HWc fc0 fc1 fk0 fk1 fk2 fk3 fk4 fk5 fk6 fk7 fk8 fk9; replace RA := Own.at1g RA hcc (by omega); replace u_RA := Nat.le_trans u_RA hcc.size; replace RL := Own.at1g RL hcc (by omega); replace u_RL := Nat.le_trans u_RL hcc.size; replace R0 := Own.at1g R0 hcc (by omega); replace u_R0 := Nat.le_trans u_R0 hcc.size; replace R1 := Own.at1g R1 hcc (by omega); replace u_R1 := Nat.le_trans u_R1 hcc.size; replace RAn := Own.at1g RAn hcc (by omega); replace u_RAn := Nat.le_trans u_RAn hcc.size; replace RLn := Own.at1g RLn hcc (by omega); replace u_RLn := Nat.le_trans u_RLn hcc.size; replace R0n := Own.at1g R0n hcc (by omega); replace u_R0n := Nat.le_trans u_R0n hcc.size; replace R1n := Own.at1g R1n hcc (by omega); replace u_R1n := Nat.le_trans u_R1n hcc.size; replace B3 := hcc.blkS B3 (by unfold at1; omega); replace B4 := hcc.blkS B4 (by unfold at1; omega); replace B9 := hcc.blkS B9 (by unfold at1; omega); replace B8 := hbc; clear hbc; replace s := s.put hcc (fun i hi => by have h1 : i = b8 := hi; omega)
   try clear hcc
   obtain ⟨wpd, hwd, hbd, hcd⟩ := ten_set B9 (.int .i64 xn.kind) (.int .i64 xn.src) (.int .i64 xn.dst) (.slice o_0n xn.path.parts.length c_0n) (.int .i64 xn.pi) (.int .i64 xn.hi) (.int .i64 xn.beta) (.int .i64 xn.rid) (.int .i64 xn.seq) (.slice o_1n xn.pay.length c_1n); rw [← hwd]; clear hwd; replace RA := Own.at1g RA hcd (by omega); replace u_RA := Nat.le_trans u_RA hcd.size; replace RL := Own.at1g RL hcd (by omega); replace u_RL := Nat.le_trans u_RL hcd.size; replace R0 := Own.at1g R0 hcd (by omega); replace u_R0 := Nat.le_trans u_R0 hcd.size; replace R1 := Own.at1g R1 hcd (by omega); replace u_R1 := Nat.le_trans u_R1 hcd.size; replace RAn := Own.at1g RAn hcd (by omega); replace u_RAn := Nat.le_trans u_RAn hcd.size; replace RLn := Own.at1g RLn hcd (by omega); replace u_RLn := Nat.le_trans u_RLn hcd.size; replace R0n := Own.at1g R0n hcd (by omega); replace u_R0n := Nat.le_trans u_R0n hcd.size; replace R1n := Own.at1g R1n hcd (by omega); replace u_R1n := Nat.le_trans u_R1n hcd.size; replace B3 := hcd.blkS B3 (by unfold at1; omega); replace B4 := hcd.blkS B4 (by unfold at1; omega); replace B8 := hcd.blkS B8 (by unfold at1; omega); replace B9 := hbd; clear hbd; replace s := s.put hcd (fun i hi => by have h1 : i = (b8 + 1) := hi; omega)
   try clear hcd
   have cb_B3 := blk2 B3; have cb_B4 := blk10 B4; have cb_B8 := blk2 B8; have cb_B9 := blk10 B9
   go_wp2_with fail
   clear cb_B3 cb_B4 cb_B8 cb_B9; refine (s_CurrentAS xn _ _ _ (Own.rd _ R0n)).mono ?_; rintro e w5 ⟨rfl, hzq⟩; replace B3 := Ext.block hzq B3; replace B4 := Ext.block hzq B4; replace B8 := Ext.block hzq B8; replace B9 := Ext.block hzq B9; replace RA := Own.ext RA hzq; replace u_RA := Nat.le_trans u_RA hzq.size; replace RL := Own.ext RL hzq; replace u_RL := Nat.le_trans u_RL hzq.size; replace R0 := Own.ext R0 hzq; replace u_R0 := Nat.le_trans u_R0 hzq.size; replace R1 := Own.ext R1 hzq; replace u_R1 := Nat.le_trans u_R1 hzq.size; replace RAn := Own.ext RAn hzq; replace u_RAn := Nat.le_trans u_RAn hzq.size; replace RLn := Own.ext RLn hzq; replace u_RLn := Nat.le_trans u_RLn hzq.size; replace R0n := Own.ext R0n hzq; replace u_R0n := Nat.le_trans u_R0n hzq.size; replace R1n := Own.ext R1n hzq; replace u_R1n := Nat.le_trans u_R1n hzq.size; replace s := s.ext hzq; clear hzq
   obtain ⟨rn, hr9⟩ : ∃ r, r = curAs xn := ⟨_, rfl⟩
   rw [← hr9]; clear hr9
   go_wp2_with fail
   go_meet
   exact ⟨tn, xn, rn, _, _, _, _, _, _, _, _, _, _, rfl, TKn, hxbn, g_RAn, lt_B4_RAn, B3, B4, B8, B9, ⟨RAn, u_RAn⟩, ⟨RLn, u_RLn⟩, ⟨R0n, u_R0n⟩, ⟨R1n, u_R1n⟩, s.c, s.x⟩
 case rest =>
  have hc0z := s.c0; clear s B3 B4 B8 B9 RA RL R0 R1 u_RA u_RL u_R0 u_R1; obtain ⟨tq, xq, rq, o1q, c1q, o2q, c2q, o_0q, c_0q, o_1q, c_1q, lo, hi, hv10, TKq, hxbq, hlo1, hlo2, B3, B4, B8, B9, ⟨RA, u_RA⟩, ⟨RL, u_RL⟩, ⟨R0, u_R0⟩, ⟨R1, u_R1⟩, hcC, hcX⟩ := hcut
  obtain ⟨wz1, hwz⟩ : ∃ wz : World, wz = wc := ⟨_, rfl⟩
  subst hwz
  have s : DSt g cv code w1 wz1 := ⟨hcC, hcX, hc0z⟩
  clear hcC hcX hc0z; subst hv10
  try clear g_RA lt_B3_RA lt_B4_RA
  try clear g_RL lt_B3_RL lt_B4_RL
  try clear g_R0 lt_B3_R0 lt_B4_R0
  try clear g_R1 lt_B3_R1 lt_B4_R1
  have g_RA : g < lo := by omega
  have lt_B3_RA : w.heap.size < lo := by omega
  have lt_B4_RA : (w.heap.size + 1) < lo := by omega
  have g_RL : g < lo := by omega
  have lt_B3_RL : w.heap.size < lo := by omega
  have lt_B4_RL : (w.heap.size + 1) < lo := by omega
  have g_R0 : g < lo := by omega
  have lt_B3_R0 : w.heap.size < lo := by omega
  have lt_B4_R0 : (w.heap.size + 1) < lo := by omega
  have g_R1 : g < lo := by omega
  have lt_B3_R1 : w.heap.size < lo := by omega
  have lt_B4_R1 : (w.heap.size + 1) < lo := by omega
  have cb_B3 := blk2 B3; have cb_B4 := blk10 B4; have cb_B8 := blk2 B8; have cb_B9 := blk10 B9
  go_upto_region 6 with (fail)
  clear cb_B3 cb_B4 cb_B8 cb_B9; refine wp_region_fin (fun k => k = w.heap.size ∨ k = w.heap.size + 1) [([0, 1, 2, 3, 4, 5], 6), ([], 7)] [8, 9] [] (by kernel_rfl) (by kernel_rfl) (by kernel_rfl) ?_; have ch_B8 := blk2 B8; have q0 := ChgSW.cell (S := fun k => k = w.heap.size ∨ k = w.heap.size + 1) (ch_B8.1) (by first | (unfold at1; simp only; omega) | (simp only; omega)); have q1 := ChgSW.cell (S := fun k => k = w.heap.size ∨ k = w.heap.size + 1) (ch_B8.2) (by first | (unfold at1; simp only; omega) | (simp only; omega)); clear ch_B8; have ch_B9 := blk10 B9; have q2 := ChgSW.cell (S := fun k => k = w.heap.size ∨ k = w.heap.size + 1) (ch_B9.1) (by first | (unfold at1; simp only; omega) | (simp only; omega)); have q3 := ChgSW.cell (S := fun k => k = w.heap.size ∨ k = w.heap.size + 1) (ch_B9.2.1) (by first | (unfold at1; simp only; omega) | (simp only; omega)); have q4 := ChgSW.cell (S := fun k => k = w.heap.size ∨ k = w.heap.size + 1) (ch_B9.2.2.1) (by first | (unfold at1; simp only; omega) | (simp only; omega)); have q5 := ChgSW.cell (S := fun k => k = w.heap.size ∨ k = w.heap.size + 1) (ch_B9.2.2.2.1) (by first | (unfold at1; simp only; omega) | (simp only; omega)); have q6 := ChgSW.cell (S := fun k => k = w.heap.size ∨ k = w.heap.size + 1) (ch_B9.2.2.2.2.1) (by first | (unfold at1; simp only; omega) | (simp only; omega))
  have q7 := ChgSW.cell (S := fun k => k = w.heap.size ∨ k = w.heap.size + 1) (ch_B9.2.2.2.2.2.1) (by first | (unfold at1; simp only; omega) | (simp only; omega)); have q8 := ChgSW.cell (S := fun k => k = w.heap.size ∨ k = w.heap.size + 1) (ch_B9.2.2.2.2.2.2.1) (by first | (unfold at1; simp only; omega) | (simp only; omega)); have q9 := ChgSW.cell (S := fun k => k = w.heap.size ∨ k = w.heap.size + 1) (ch_B9.2.2.2.2.2.2.2.1) (by first | (unfold at1; simp only; omega) | (simp only; omega)); have q10 := ChgSW.cell (S := fun k => k = w.heap.size ∨ k = w.heap.size + 1) (ch_B9.2.2.2.2.2.2.2.2.1) (by first | (unfold at1; simp only; omega) | (simp only; omega)); have q11 := ChgSW.cell (S := fun k => k = w.heap.size ∨ k = w.heap.size + 1) (ch_B9.2.2.2.2.2.2.2.2.2) (by first | (unfold at1; simp only; omega) | (simp only; omega)); clear ch_B9; simp only [wpBlocksX, pickOps, PK]; have hch : Chg (fun k => k = w.heap.size ∨ k = w.heap.size + 1) wz1 wz1.drew := Chg.ofExt (Ext.refl wz1).drew; replace B3 := Ext.block ((Ext.refl wz1).drew) B3; replace B4 := Ext.block ((Ext.refl wz1).drew) B4; replace B8 := Ext.block ((Ext.refl wz1).drew) B8; replace B9 := Ext.block ((Ext.refl wz1).drew) B9; replace RA := Own.ext RA ((Ext.refl wz1).drew); replace u_RA := Nat.le_trans u_RA ((Ext.refl wz1).drew).size; replace RL := Own.ext RL ((Ext.refl wz1).drew); replace u_RL := Nat.le_trans u_RL ((Ext.refl wz1).drew).size; replace R0 := Own.ext R0 ((Ext.refl wz1).drew)
  replace u_R0 := Nat.le_trans u_R0 ((Ext.refl wz1).drew).size; replace R1 := Own.ext R1 ((Ext.refl wz1).drew); replace u_R1 := Nat.le_trans u_R1 ((Ext.refl wz1).drew).size; replace s := s.ext ((Ext.refl wz1).drew)
  obtain ⟨wt, hnw⟩ : ∃ wn, wn = wz1.drew := ⟨_, rfl⟩
  rw [← hnw] at B3 B4 B8 B9 RA RL R0 R1 u_RA u_RL u_R0 u_R1 s hch ⊢
  clear hnw
  repeat (first | go_big_quiet_step (fail) | quiet_step (fail))
  refine wpQuiet_nil ?_; have hcu := s.c; have hxe := hx0.trans (hn1.ofCur s.x hgl); obtain ⟨wpa, hwa, hba, hca⟩ := two_set B3 (.slice o1q tq.ases.length c1q) (.slice o2q tq.links.length c2q); have HWa := Lib.hid hwa; clear hwa; have ff0 := fr_of B3 0; have ff1 := fr_of B3 1; have cb := blk2 B3
  go_wp2_with fail
  rw [← HWa.out]; clear HWa cb ff0 ff1; replace hch := hch.trans (hca.mono (fun b h => .inl h)); refine ⟨⟨⟨_, hch⟩, rfl⟩, ?_⟩; replace RA := Own.at1g RA hca (by omega); replace u_RA := Nat.le_trans u_RA hca.size; replace RL := Own.at1g RL hca (by omega); replace u_RL := Nat.le_trans u_RL hca.size; replace R0 := Own.at1g R0 hca (by omega); replace u_R0 := Nat.le_trans u_R0 hca.size; replace R1 := Own.at1g R1 hca (by omega); replace u_R1 := Nat.le_trans u_R1 hca.size; replace B4 := hca.blkS B4 (by unfold at1; omega); replace B8 := hca.blkS B8 (by unfold at1; omega); replace B9 := hca.blkS B9 (by unfold at1; omega); replace B3 := hba; clear hba; replace hxe := hxe.chg hca (fun i hi => by have h1 : i = w.heap.size := hi; omega); replace hcu := Cur.ofCode hr hcu hca (fun h => by have h1 : g = w.heap.size := h; omega) hxe (by omega)
  try clear hca
  repeat (first | go_big_quiet_step (fail) | quiet_step (fail))
  refine wpQuiet_nil ?_; obtain ⟨wpb, hwb, hbb, hcb⟩ := ten_set B4 (.int .i64 xq.kind) (.int .i64 xq.src) (.int .i64 xq.dst) (.slice o_0q xq.path.parts.length c_0q) (.int .i64 xq.pi) (.int .i64 xq.hi) (.int .i64 xq.beta) (.int .i64 xq.rid) (.int .i64 xq.seq) (.slice o_1q xq.pay.length c_1q); have HWb := Lib.hid hwb; clear hwb; have ff0 := fr_of B4 0; have ff1 := fr_of B4 1; have ff2 := fr_of B4 2; have ff3 := fr_of B4 3; have ff4 := fr_of B4 4; have ff5 := fr_of B4 5; have ff6 := fr_of B4 6; have ff7 := fr_of B4 7; have ff8 := fr_of B4 8; have ff9 := fr_of B4 9; have cb := blk10 B4
  go_wp2_with fail
  rw [← HWb.out]; clear HWb cb ff0 ff1 ff2 ff3 ff4 ff5 ff6 ff7 ff8 ff9; replace hch := hch.trans (hcb.mono (fun b h => .inr h)); refine ⟨⟨⟨_, hch⟩, rfl⟩, ?_⟩; replace RA := Own.at1g RA hcb (by omega); replace u_RA := Nat.le_trans u_RA hcb.size; replace RL := Own.at1g RL hcb (by omega); replace u_RL := Nat.le_trans u_RL hcb.size; replace R0 := Own.at1g R0 hcb (by omega); replace u_R0 := Nat.le_trans u_R0 hcb.size; replace R1 := Own.at1g R1 hcb (by omega); replace u_R1 := Nat.le_trans u_R1 hcb.size; replace B3 := hcb.blkS B3 (by unfold at1; omega); replace B8 := hcb.blkS B8 (by unfold at1; omega); replace B9 := hcb.blkS B9 (by unfold at1; omega); replace B4 := hbb; clear hbb; replace hxe := hxe.chg hcb (fun i hi => by have h1 : i = (w.heap.size + 1) := hi; omega); replace hcu := Cur.ofCode hr hcu hcb (fun h => by have h1 : g = (w.heap.size + 1) := h; omega) hxe (by omega)
  try clear hcb
  repeat (first | go_big_quiet_step (fail) | quiet_step (fail))
  refine wpQuiet_nil ?_; refine NoPanic.normal ?_; clear hch q0 q1 q2 q3 q4 q5 q6 q7 q8 q9 q10 q11; have cr_B3 := blk2 B3; have cr_B4 := blk10 B4; have cr_B8 := blk2 B8; have cr_B9 := blk10 B9; have hwb := (hx0.trans hn1).size
  go_wp2_with fail
  refine bodyPost_ret (v := .tuple #[.pointer (some ⟨g, 0, none⟩), .agg #[.slice o1q tq.ases.length c1q, .slice o2q tq.links.length c2q], .agg #[.int .i64 xq.kind, .int .i64 xq.src, .int .i64 xq.dst, .slice o_0q xq.path.parts.length c_0q, .int .i64 xq.pi, .int .i64 xq.hi, .int .i64 xq.beta, .int .i64 xq.rid, .int .i64 xq.seq, .slice o_1q xq.pay.length c_1q], .int .i64 rq, .int .i64 inn]) (by simp [results, Tryz.results104, go_sem, cr_B3, cr_B4]) rfl ?_; exact ⟨g, _, _, _, _, _, tq, xq, rq, inn, rfl, TKq, hxbq, (Own.upTo RA (Nat.le_refl _)), (Own.upTo RL (Nat.le_refl _)), (Own.upTo R0 (Nat.le_refl _)), (Own.upTo R1 (Nat.le_refl _)), (by omega), g_RA, hcu, hxe⟩
end
end Go.Proofs.YtcpfmhgfaliemaaGreat
