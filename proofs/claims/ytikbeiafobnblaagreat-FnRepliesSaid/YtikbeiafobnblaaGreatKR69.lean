/- What these laws need: FnReplies: The draws of the code: a packet; what is replied to. -/
import Derived.Test.YtikbeiafobnblaaGreatKR28
import Derived.Test.YtikbeiafobnblaaGreatKR35
import Derived.Test.YtikbeiafobnblaaGreatKR67
namespace Go.Proofs.YtikbeiafobnblaaGreat
section
open Go.ChangeShapes Go.WideShapes Go.ChangeAt Go.RowKit Go.Deep
set_option maxRecDepth 100000 in
set_option maxHeartbeats 40000000 in
theorem s_l26One (code : List Int) (cv : Value) (w : World) (hr : RdS Rep.byte w cv code) (hu : ∀ x ∈ code, U8 x) (hl : code.length ≤ 1048576) :
  Calls Tryz.prog 159 #[cv] w fun e w' => ∃ (g lo1 : Nat) (v1 v2 u0 u1 : Value) (t : Topo) (x : Pkt), e = .returned (.tuple #[.pointer (some ⟨g, 0, none⟩), .agg #[v1, v2], .agg #[.int .i64 x.kind, .int .i64 x.src, .int .i64 x.dst, u0, .int .i64 x.pi, .int .i64 x.hi, .int .i64 x.beta, .int .i64 x.rid, .int .i64 x.seq, u1]]) ∧ TopoOk t ∧ PktBd x ∧ (Own.keep ASd.rep).own (rng lo1 w'.heap.size) w' v1 t.ases ∧ (Own.keep Lnk.rep).own (rng lo1 w'.heap.size) w' v2 t.links ∧ (Own.keep Part.rep).own (rng lo1 w'.heap.size) w' u0 x.path.parts ∧ (Own.keep Rep.byte).own (rng lo1 w'.heap.size) w' u1 x.pay ∧ w.heap.size ≤ g ∧ g < lo1 ∧ Cur g cv code w' ∧ Ext w w' := by
 have hx0 := ext2 w (.cells #[.slice none 0 0, .slice none 0 0] 33) (.cells #[.int .i64 0, .int .i64 0, .int .i64 0, .slice none 0 0, .int .i64 0, .int .i64 0, .int .i64 0, .int .i64 0, .int .i64 0, .slice none 0 0] 28)
 have HB := al2 w (.cells #[.slice none 0 0, .slice none 0 0] 33) (.cells #[.int .i64 0, .int .i64 0, .int .i64 0, .slice none 0 0, .int .i64 0, .int .i64 0, .int .i64 0, .int .i64 0, .int .i64 0, .slice none 0 0] 28)
 go_enter Tryz.func159, Tryz.ntmps159
 go_wp2_with fail
 refine (s_l1New code _ _ (hr.ext hx0) hu hl).mono ?_
 rintro e w1 ⟨g, rfl, hgl, hc1, hn1⟩
 have hgw := hc1.lt
 have s : DSt g cv code w1 w1 := ⟨hc1, Chg.refl _ _, hc1⟩
 have B3 := Ext.block hn1 HB.1
 have B4 := Ext.block hn1 HB.2
 have hgr : (w.heap.size + 1) < g := by simp at hgl; omega
 clear HB
 clear hc1
 have cb_B3 := blk2 B3
 have cb_B4 := blk10 B4
 go_wp2_with fail
 clear cb_B3 cb_B4
 have hbs : w1.heap.size ≤ w1.heap.size := s.x.size
 have ltq_B3 : w.heap.size < w1.heap.size := blk_lt B3
 have ltq_B4 : (w.heap.size + 1) < w1.heap.size := blk_lt B4
 refine (s_l26Any g _ _ _ s.c).mono ?_
 rintro e w2 ⟨v1, v2, u0, u1, t, x, rfl, TK, hxb, RA, RL, R0, R1, hcq, hzq⟩
 replace B3 := hzq.blkS B3 (by unfold at1; omega)
 replace B4 := hzq.blkS B4 (by unfold at1; omega)
 replace s := s.draw hcq hzq
 obtain ⟨o1, c1, rfl, _⟩ := RdS.shape (Own.rd _ RA)
 obtain ⟨o2, c2, rfl, _⟩ := RdS.shape (Own.rd _ RL)
 obtain ⟨o_0, c_0, rfl, _⟩ := RdS.shape (Own.rd _ R0)
 obtain ⟨o_1, c_1, rfl, _⟩ := RdS.shape (Own.rd _ R1)
 have g_RA : g < w1.heap.size := by omega
 have u_RA : w2.heap.size ≤ w2.heap.size := by omega
 have lt_B3_RA : w.heap.size < w1.heap.size := by omega
 have lt_B4_RA : (w.heap.size + 1) < w1.heap.size := by omega
 have g_RL : g < w1.heap.size := by omega
 have u_RL : w2.heap.size ≤ w2.heap.size := by omega
 have lt_B3_RL : w.heap.size < w1.heap.size := by omega
 have lt_B4_RL : (w.heap.size + 1) < w1.heap.size := by omega
 have g_R0 : g < w1.heap.size := by omega
 have u_R0 : w2.heap.size ≤ w2.heap.size := by omega
 have lt_B3_R0 : w.heap.size < w1.heap.size := by omega
 have lt_B4_R0 : (w.heap.size + 1) < w1.heap.size := by omega
 have g_R1 : g < w1.heap.size := by omega
 have u_R1 : w2.heap.size ≤ w2.heap.size := by omega
 have lt_B3_R1 : w.heap.size < w1.heap.size := by omega
 have lt_B4_R1 : (w.heap.size + 1) < w1.heap.size := by omega
 clear hzq hcq hbs ltq_B3 ltq_B4
 have cb_B3 := blk2 B3
 have cb_B4 := blk10 B4
 go_upto_region 3 with (fail)
 clear cb_B3 cb_B4
 have hxa := ext2 w2 (.cells #[.slice o1 t.ases.length c1, .slice o2 t.links.length c2] 33) (.cells #[.int .i64 x.kind, .int .i64 x.src, .int .i64 x.dst, .slice o_0 x.path.parts.length c_0, .int .i64 x.pi, .int .i64 x.hi, .int .i64 x.beta, .int .i64 x.rid, .int .i64 x.seq, .slice o_1 x.pay.length c_1] 28)
 have BB := al2 w2 (.cells #[.slice o1 t.ases.length c1, .slice o2 t.links.length c2] 33) (.cells #[.int .i64 x.kind, .int .i64 x.src, .int .i64 x.dst, .slice o_0 x.path.parts.length c_0, .int .i64 x.pi, .int .i64 x.hi, .int .i64 x.beta, .int .i64 x.rid, .int .i64 x.seq, .slice o_1 x.pay.length c_1] 28)
 obtain ⟨b6, eb6⟩ : ∃ b, b = w2.heap.size := ⟨_, rfl⟩
 have ltw_b6 : w1.heap.size ≤ b6 := by rw [eb6]; exact s.x.size
 have lt_B3_b6 : w.heap.size < b6 := by rw [eb6]; exact blk_lt B3
 have lt_B4_b6 : (w.heap.size + 1) < b6 := by rw [eb6]; exact blk_lt B4
 have hb_RA_b6 : w2.heap.size ≤ b6 := by rw [eb6]; exact u_RA
 have hb_RL_b6 : w2.heap.size ≤ b6 := by rw [eb6]; exact u_RL
 have hb_R0_b6 : w2.heap.size ≤ b6 := by rw [eb6]; exact u_R0
 have hb_R1_b6 : w2.heap.size ≤ b6 := by rw [eb6]; exact u_R1
 replace B3 := Ext.block hxa B3
 replace B4 := Ext.block hxa B4
 replace RA := Own.ext RA hxa
 replace u_RA := Nat.le_trans u_RA hxa.size
 replace RL := Own.ext RL hxa
 replace u_RL := Nat.le_trans u_RL hxa.size
 replace R0 := Own.ext R0 hxa
 replace u_R0 := Nat.le_trans u_R0 hxa.size
 replace R1 := Own.ext R1 hxa
 replace u_R1 := Nat.le_trans u_R1 hxa.size
 replace s := s.ext hxa
 have B6 := BB.1
 have B7 := BB.2
 rw [← eb6] at B6 B7
 rw [← eb6]
 clear hxa BB
 generalize ((w2.alloc (.cells #[.slice o1 t.ases.length c1, .slice o2 t.links.length c2] 33)).alloc (.cells #[.int .i64 x.kind, .int .i64 x.src, .int .i64 x.dst, .slice o_0 x.path.parts.length c_0, .int .i64 x.pi, .int .i64 x.hi, .int .i64 x.beta, .int .i64 x.rid, .int .i64 x.seq, .slice o_1 x.pay.length c_1] 28)) = wa at B3 B4 B6 B7 RA RL R0 R1 u_RA u_RL u_R0 u_R1 s ⊢
 clear eb6
 refine wp_region_fin (at1 w.heap.size) [([0, 1, 2, 3], 4)] [] [5] (by kernel_rfl) (by kernel_rfl) (by kernel_rfl) ?_
 have ch_B6 := blk2 B6
 have q0 := ChgSW.cell (S := at1 w.heap.size) (ch_B6.1) (by first | (unfold at1; simp only; omega) | (simp only; omega))
 have q1 := ChgSW.cell (S := at1 w.heap.size) (ch_B6.2) (by first | (unfold at1; simp only; omega) | (simp only; omega))
 clear ch_B6
 have ch_B7 := blk10 B7
 have q2 := ChgSW.cell (S := at1 w.heap.size) (ch_B7.1) (by first | (unfold at1; simp only; omega) | (simp only; omega))
 have q3 := ChgSW.cell (S := at1 w.heap.size) (ch_B7.2.1) (by first | (unfold at1; simp only; omega) | (simp only; omega))
 have q4 := ChgSW.cell (S := at1 w.heap.size) (ch_B7.2.2.1) (by first | (unfold at1; simp only; omega) | (simp only; omega))
 have q5 := ChgSW.cell (S := at1 w.heap.size) (ch_B7.2.2.2.1) (by first | (unfold at1; simp only; omega) | (simp only; omega))
 have q6 := ChgSW.cell (S := at1 w.heap.size) (ch_B7.2.2.2.2.1) (by first | (unfold at1; simp only; omega) | (simp only; omega))
 have q7 := ChgSW.cell (S := at1 w.heap.size) (ch_B7.2.2.2.2.2.1) (by first | (unfold at1; simp only; omega) | (simp only; omega))
 have q8 := ChgSW.cell (S := at1 w.heap.size) (ch_B7.2.2.2.2.2.2.1) (by first | (unfold at1; simp only; omega) | (simp only; omega))
 have q9 := ChgSW.cell (S := at1 w.heap.size) (ch_B7.2.2.2.2.2.2.2.1) (by first | (unfold at1; simp only; omega) | (simp only; omega))
 have q10 := ChgSW.cell (S := at1 w.heap.size) (ch_B7.2.2.2.2.2.2.2.2.1) (by first | (unfold at1; simp only; omega) | (simp only; omega))
 have q11 := ChgSW.cell (S := at1 w.heap.size) (ch_B7.2.2.2.2.2.2.2.2.2) (by first | (unfold at1; simp only; omega) | (simp only; omega))
 clear ch_B7
 simp only [wpBlocksX, pickOps, PK]
 have hch : Chg (at1 w.heap.size) wa wa.drew := Chg.ofExt (Ext.refl wa).drew
 replace B3 := Ext.block ((Ext.refl wa).drew) B3
 replace B4 := Ext.block ((Ext.refl wa).drew) B4
 replace B6 := Ext.block ((Ext.refl wa).drew) B6
 replace B7 := Ext.block ((Ext.refl wa).drew) B7
 replace RA := Own.ext RA ((Ext.refl wa).drew)
 replace u_RA := Nat.le_trans u_RA ((Ext.refl wa).drew).size
 replace RL := Own.ext RL ((Ext.refl wa).drew)
 replace u_RL := Nat.le_trans u_RL ((Ext.refl wa).drew).size
 replace R0 := Own.ext R0 ((Ext.refl wa).drew)
 replace u_R0 := Nat.le_trans u_R0 ((Ext.refl wa).drew).size
 replace R1 := Own.ext R1 ((Ext.refl wa).drew)
 replace u_R1 := Nat.le_trans u_R1 ((Ext.refl wa).drew).size
 replace s := s.ext ((Ext.refl wa).drew)
 obtain ⟨wt, hnw⟩ : ∃ wn, wn = wa.drew := ⟨_, rfl⟩
 rw [← hnw] at B3 B4 B6 B7 RA RL R0 R1 u_RA u_RL u_R0 u_R1 s hch ⊢
 clear hnw
 repeat (first | go_big_quiet_step (fail) | quiet_step (fail))
 refine wpQuiet_nil ?_
 have hcu := s.c
 have hxe := hx0.trans (hn1.ofCur s.x hgl)
 obtain ⟨wpa, hwa, hba, hca⟩ := two_set B3 (.slice o1 t.ases.length c1) (.slice o2 t.links.length c2)
 have HWa := Lib.hid hwa
 clear hwa
 have ff0 := fr_of B3 0
 have ff1 := fr_of B3 1
 have cb := blk2 B3
 go_wp2_with fail
 rw [← HWa.out]
 clear HWa cb ff0 ff1
 replace hch := hch.trans (hca.mono (fun b h => h))
 refine ⟨⟨⟨_, hch⟩, rfl⟩, ?_⟩
 replace RA := Own.at1g RA hca (by omega)
 replace u_RA := Nat.le_trans u_RA hca.size
 replace RL := Own.at1g RL hca (by omega)
 replace u_RL := Nat.le_trans u_RL hca.size
 replace R0 := Own.at1g R0 hca (by omega)
 replace u_R0 := Nat.le_trans u_R0 hca.size
 replace R1 := Own.at1g R1 hca (by omega)
 replace u_R1 := Nat.le_trans u_R1 hca.size
 replace B4 := hca.blkS B4 (by unfold at1; omega)
 replace B6 := hca.blkS B6 (by unfold at1; omega)
 replace B7 := hca.blkS B7 (by unfold at1; omega)
 replace B3 := hba
 clear hba
 replace hxe := hxe.chg hca (fun i hi => by have h1 : i = w.heap.size := hi; omega)
 replace hcu := Cur.ofCode hr hcu hca (fun h => by have h1 : g = w.heap.size := h; omega) hxe (by omega)
 try clear hca
 repeat (first | go_big_quiet_step (fail) | quiet_step (fail))
 refine wpQuiet_nil ?_
 obtain ⟨wpb, hwb, hbb, hcb⟩ := ten_set B4 (.int .i64 x.kind) (.int .i64 x.src) (.int .i64 x.dst) (.slice o_0 x.path.parts.length c_0) (.int .i64 x.pi) (.int .i64 x.hi) (.int .i64 x.beta) (.int .i64 x.rid) (.int .i64 x.seq) (.slice o_1 x.pay.length c_1)
 have HWb := Lib.hid hwb
 clear hwb
 have ff0 := fr_of B4 0
 have ff1 := fr_of B4 1
 have ff2 := fr_of B4 2
 have ff3 := fr_of B4 3
 have ff4 := fr_of B4 4
 have ff5 := fr_of B4 5
 have ff6 := fr_of B4 6
 have ff7 := fr_of B4 7
 have ff8 := fr_of B4 8
 have ff9 := fr_of B4 9
 have cb := blk10 B4
 go_wp2_with fail
 rw [← HWb.out]
 clear HWb cb ff0 ff1 ff2 ff3 ff4 ff5 ff6 ff7 ff8 ff9
 replace RA := Own.at1g RA hcb (by omega)
 replace u_RA := Nat.le_trans u_RA hcb.size
 replace RL := Own.at1g RL hcb (by omega)
 replace u_RL := Nat.le_trans u_RL hcb.size
 replace R0 := Own.at1g R0 hcb (by omega)
 replace u_R0 := Nat.le_trans u_R0 hcb.size
 replace R1 := Own.at1g R1 hcb (by omega)
 replace u_R1 := Nat.le_trans u_R1 hcb.size
 replace B3 := hcb.blkS B3 (by unfold at1; omega)
 replace B6 := hcb.blkS B6 (by unfold at1; omega)
 replace B7 := hcb.blkS B7 (by unfold at1; omega)
 replace B4 := hbb
 clear hbb
 replace hxe := hxe.chg hcb (fun i hi => by have h1 : i = (w.heap.size + 1) := hi; omega)
 replace hcu := Cur.ofCode hr hcu hcb (fun h => by have h1 : g = (w.heap.size + 1) := h; omega) hxe (by omega)
 try clear hcb
 refine NoPanic.normal ?_
 clear hch q0 q1 q2 q3 q4 q5 q6 q7 q8 q9 q10 q11
 have cr_B3 := blk2 B3
 have cr_B4 := blk10 B4
 have cr_B6 := blk2 B6
 have cr_B7 := blk10 B7
 have hwb := (hx0.trans hn1).size
 go_wp2_with fail
 refine bodyPost_ret (v := .tuple #[.pointer (some ⟨g, 0, none⟩), .agg #[.slice o1 t.ases.length c1, .slice o2 t.links.length c2], .agg #[.int .i64 x.kind, .int .i64 x.src, .int .i64 x.dst, .slice o_0 x.path.parts.length c_0, .int .i64 x.pi, .int .i64 x.hi, .int .i64 x.beta, .int .i64 x.rid, .int .i64 x.seq, .slice o_1 x.pay.length c_1]]) (by simp [results, Tryz.results159, go_sem, cr_B3, cr_B4]) rfl ?_
 exact ⟨g, _, _, _, _, _, t, x, rfl, TK, hxb, (Own.upTo RA (Nat.le_refl _)), (Own.upTo RL (Nat.le_refl _)), (Own.upTo R0 (Nat.le_refl _)), (Own.upTo R1 (Nat.le_refl _)), (by omega), g_RA, hcu, hxe⟩
set_option maxRecDepth 100000 in
set_option maxHeartbeats 40000000 in
theorem s_DrawReply (code : List Int) (cv : Value) (w : World) (hr : RdS Rep.byte w cv code) (hu : ∀ x ∈ code, U8 x) (hl : code.length ≤ 1048576) :
  Calls Tryz.prog 51 #[cv] w fun e w' => ∃ (u0 u1 vp : Value) (x : Pkt) (a b : Int) (l : List Int), e = .returned (.tuple #[.agg #[.int .i64 x.kind, .int .i64 x.src, .int .i64 x.dst, u0, .int .i64 x.pi, .int .i64 x.hi, .int .i64 x.beta, .int .i64 x.rid, .int .i64 x.seq, u1], .int .i64 a, .int .i64 b, vp]) ∧ PktBd x ∧ l.length ≤ 2 ∧ (Own.keep Part.rep).own (rng w.heap.size w'.heap.size) w' u0 x.path.parts ∧ (Own.keep Rep.byte).own (rng w.heap.size w'.heap.size) w' u1 x.pay ∧ (Own.keep Rep.byte).own (rng w.heap.size w'.heap.size) w' vp l ∧ Ext w w' := by
 have hx0 : Ext w (w.alloc (.cells #[.int .i64 0, .int .i64 0, .int .i64 0, .slice none 0 0, .int .i64 0, .int .i64 0, .int .i64 0, .int .i64 0, .int .i64 0, .slice none 0 0] 28)) := (Ext.refl _).alloc _
 have HB := blk_new w (.cells #[.int .i64 0, .int .i64 0, .int .i64 0, .slice none 0 0, .int .i64 0, .int .i64 0, .int .i64 0, .int .i64 0, .int .i64 0, .slice none 0 0] 28)
 go_enter Tryz.func51, Tryz.ntmps51
 go_wp2_with fail
 refine (s_l26One code _ _ (hr.ext hx0) hu hl).mono ?_
 rintro e w1 ⟨g, lo1, v1, v2, u0, u1, t, x, rfl, TK, hxb, RA, RL, R0, R1, hgl, hglo, hc1, hn1⟩
 have hgw := hc1.lt
 have s : DSt g cv code w1 w1 := ⟨hc1, Chg.refl _ _, hc1⟩
 have B2 := Ext.block hn1 HB
 have hgr : w.heap.size < g := by simp at hgl; omega
 clear HB
 have g_RA : g < lo1 := hglo
 have u_RA : w1.heap.size ≤ w1.heap.size := Nat.le_refl _
 have lt_B2_RA : w.heap.size < lo1 := by omega
 have g_RL : g < lo1 := hglo
 have u_RL : w1.heap.size ≤ w1.heap.size := Nat.le_refl _
 have lt_B2_RL : w.heap.size < lo1 := by omega
 have g_R0 : g < lo1 := hglo
 have u_R0 : w1.heap.size ≤ w1.heap.size := Nat.le_refl _
 have lt_B2_R0 : w.heap.size < lo1 := by omega
 have g_R1 : g < lo1 := hglo
 have u_R1 : w1.heap.size ≤ w1.heap.size := Nat.le_refl _
 have lt_B2_R1 : w.heap.size < lo1 := by omega
 obtain ⟨o1, c1, rfl, _⟩ := RdS.shape (Own.rd _ RA)
 obtain ⟨o2, c2, rfl, _⟩ := RdS.shape (Own.rd _ RL)
 obtain ⟨o_0, c_0, rfl, _⟩ := RdS.shape (Own.rd _ R0)
 obtain ⟨o_1, c_1, rfl, _⟩ := RdS.shape (Own.rd _ R1)
 clear hc1
 have cb_B2 := blk10 B2
 go_upto_region 2 with (fail)
 clear cb_B2
 have hxa := ext2 w1 (.cells #[.slice o1 t.ases.length c1, .slice o2 t.links.length c2] 33) (.cells #[.int .i64 x.kind, .int .i64 x.src, .int .i64 x.dst, .slice o_0 x.path.parts.length c_0, .int .i64 x.pi, .int .i64 x.hi, .int .i64 x.beta, .int .i64 x.rid, .int .i64 x.seq, .slice o_1 x.pay.length c_1] 28)
 have BB := al2 w1 (.cells #[.slice o1 t.ases.length c1, .slice o2 t.links.length c2] 33) (.cells #[.int .i64 x.kind, .int .i64 x.src, .int .i64 x.dst, .slice o_0 x.path.parts.length c_0, .int .i64 x.pi, .int .i64 x.hi, .int .i64 x.beta, .int .i64 x.rid, .int .i64 x.seq, .slice o_1 x.pay.length c_1] 28)
 obtain ⟨b7, eb7⟩ : ∃ b, b = w1.heap.size := ⟨_, rfl⟩
 have ltw_b7 : w1.heap.size ≤ b7 := by rw [eb7]; exact s.x.size
 have lt_B2_b7 : w.heap.size < b7 := by rw [eb7]; exact blk_lt B2
 have hb_RA_b7 : w1.heap.size ≤ b7 := by rw [eb7]; exact u_RA
 have hb_RL_b7 : w1.heap.size ≤ b7 := by rw [eb7]; exact u_RL
 have hb_R0_b7 : w1.heap.size ≤ b7 := by rw [eb7]; exact u_R0
 have hb_R1_b7 : w1.heap.size ≤ b7 := by rw [eb7]; exact u_R1
 replace B2 := Ext.block hxa B2
 replace RA := Own.ext RA hxa
 replace u_RA := Nat.le_trans u_RA hxa.size
 replace RL := Own.ext RL hxa
 replace u_RL := Nat.le_trans u_RL hxa.size
 replace R0 := Own.ext R0 hxa
 replace u_R0 := Nat.le_trans u_R0 hxa.size
 replace R1 := Own.ext R1 hxa
 replace u_R1 := Nat.le_trans u_R1 hxa.size
 replace s := s.ext hxa
 have B7 := BB.1
 have B8 := BB.2
 rw [← eb7] at B7 B8
 rw [← eb7]
 clear hxa BB
 generalize ((w1.alloc (.cells #[.slice o1 t.ases.length c1, .slice o2 t.links.length c2] 33)).alloc (.cells #[.int .i64 x.kind, .int .i64 x.src, .int .i64 x.dst, .slice o_0 x.path.parts.length c_0, .int .i64 x.pi, .int .i64 x.hi, .int .i64 x.beta, .int .i64 x.rid, .int .i64 x.seq, .slice o_1 x.pay.length c_1] 28)) = wa at B2 B7 B8 RA RL R0 R1 u_RA u_RL u_R0 u_R1 s ⊢
 clear eb7
 refine wp_region_fin (fun k => k = g ∨ k = w.heap.size) [([0, 1, 4, 6, 7], 2), ([3], 5), ([], 8), ([], 9), ([], 10)] [11, 12, 13] [] (by kernel_rfl) (by kernel_rfl) (by kernel_rfl) ?_
 have ch_B8 := blk10 B8
 have q0 := ChgSW.cell (S := fun k => k = g ∨ k = w.heap.size) (ch_B8.1) (by first | (unfold at1; simp only; omega) | (simp only; omega))
 have q1 := ChgSW.cell (S := fun k => k = g ∨ k = w.heap.size) (ch_B8.2.1) (by first | (unfold at1; simp only; omega) | (simp only; omega))
 have q2 := ChgSW.cell (S := fun k => k = g ∨ k = w.heap.size) (ch_B8.2.2.1) (by first | (unfold at1; simp only; omega) | (simp only; omega))
 have q3 := ChgSW.cell (S := fun k => k = g ∨ k = w.heap.size) (ch_B8.2.2.2.1) (by first | (unfold at1; simp only; omega) | (simp only; omega))
 have q4 := ChgSW.cell (S := fun k => k = g ∨ k = w.heap.size) (ch_B8.2.2.2.2.1) (by first | (unfold at1; simp only; omega) | (simp only; omega))
 have q5 := ChgSW.cell (S := fun k => k = g ∨ k = w.heap.size) (ch_B8.2.2.2.2.2.1) (by first | (unfold at1; simp only; omega) | (simp only; omega))
 have q6 := ChgSW.cell (S := fun k => k = g ∨ k = w.heap.size) (ch_B8.2.2.2.2.2.2.1) (by first | (unfold at1; simp only; omega) | (simp only; omega))
 have q7 := ChgSW.cell (S := fun k => k = g ∨ k = w.heap.size) (ch_B8.2.2.2.2.2.2.2.1) (by first | (unfold at1; simp only; omega) | (simp only; omega))
 have q8 := ChgSW.cell (S := fun k => k = g ∨ k = w.heap.size) (ch_B8.2.2.2.2.2.2.2.2.1) (by first | (unfold at1; simp only; omega) | (simp only; omega))
 have q9 := ChgSW.cell (S := fun k => k = g ∨ k = w.heap.size) (ch_B8.2.2.2.2.2.2.2.2.2) (by first | (unfold at1; simp only; omega) | (simp only; omega))
 clear ch_B8
 simp only [wpBlocksX, pickOps, PK]
 have hch : Chg (fun k => k = g ∨ k = w.heap.size) wa wa.drew := Chg.ofExt (Ext.refl wa).drew
 replace B2 := Ext.block ((Ext.refl wa).drew) B2
 replace B7 := Ext.block ((Ext.refl wa).drew) B7
 replace B8 := Ext.block ((Ext.refl wa).drew) B8
 replace RA := Own.ext RA ((Ext.refl wa).drew)
 replace u_RA := Nat.le_trans u_RA ((Ext.refl wa).drew).size
 replace RL := Own.ext RL ((Ext.refl wa).drew)
 replace u_RL := Nat.le_trans u_RL ((Ext.refl wa).drew).size
 replace R0 := Own.ext R0 ((Ext.refl wa).drew)
 replace u_R0 := Nat.le_trans u_R0 ((Ext.refl wa).drew).size
 replace R1 := Own.ext R1 ((Ext.refl wa).drew)
 replace u_R1 := Nat.le_trans u_R1 ((Ext.refl wa).drew).size
 replace s := s.ext ((Ext.refl wa).drew)
 obtain ⟨wt, hnw⟩ : ∃ wn, wn = wa.drew := ⟨_, rfl⟩
 rw [← hnw] at B2 B7 B8 RA RL R0 R1 u_RA u_RL u_R0 u_R1 s hch ⊢
 clear hnw
 repeat (first | go_big_quiet_step (fail) | quiet_step (fail))
 refine wpQuiet_nil ?_
 go_wp2_with fail
 refine (s_l1Below g (3) _ _ _ s.c).mono ?_
 rintro e w2 ⟨na, rfl, hna0, hna1, hcq, hzq⟩
 replace B2 := hzq.blkS B2 (by unfold at1; omega)
 replace B7 := hzq.blkS B7 (by unfold at1; omega)
 replace B8 := hzq.blkS B8 (by unfold at1; omega)
 replace RA := Own.at1g RA hzq (.inl g_RA)
 replace u_RA := Nat.le_trans u_RA hzq.size
 replace RL := Own.at1g RL hzq (.inl g_RL)
 replace u_RL := Nat.le_trans u_RL hzq.size
 replace R0 := Own.at1g R0 hzq (.inl g_R0)
 replace u_R0 := Nat.le_trans u_R0 hzq.size
 replace R1 := Own.at1g R1 hzq (.inl g_R1)
 replace u_R1 := Nat.le_trans u_R1 hzq.size
 replace s := s.draw hcq hzq
 replace hch := hch.trans (hzq.mono (fun b h => .inl h))
 clear hzq hcq
 go_wp2_with fail
 refine ⟨⟨⟨_, hch⟩, rfl⟩, ?_⟩
 repeat (first | go_big_quiet_step (fail) | quiet_step (fail))
 refine wpQuiet_nil ?_
 go_wp2_with fail
 refine (s_l1Below g (9) _ _ _ s.c).mono ?_
 rintro e w3 ⟨nb, rfl, hnb0, hnb1, hcq, hzq⟩
 replace B2 := hzq.blkS B2 (by unfold at1; omega)
 replace B7 := hzq.blkS B7 (by unfold at1; omega)
 replace B8 := hzq.blkS B8 (by unfold at1; omega)
 replace RA := Own.at1g RA hzq (.inl g_RA)
 replace u_RA := Nat.le_trans u_RA hzq.size
 replace RL := Own.at1g RL hzq (.inl g_RL)
 replace u_RL := Nat.le_trans u_RL hzq.size
 replace R0 := Own.at1g R0 hzq (.inl g_R0)
 replace u_R0 := Nat.le_trans u_R0 hzq.size
 replace R1 := Own.at1g R1 hzq (.inl g_R1)
 replace u_R1 := Nat.le_trans u_R1 hzq.size
 replace s := s.draw hcq hzq
 replace hch := hch.trans (hzq.mono (fun b h => .inl h))
 clear hzq hcq
 go_wp2_with fail
 refine ⟨⟨⟨_, hch⟩, rfl⟩, ?_⟩
 repeat (first | go_big_quiet_step (fail) | quiet_step (fail))
 refine wpQuiet_nil ?_
 go_wp2_with fail
 refine (s_l1Below g (3) _ _ _ s.c).mono ?_
 rintro e w4 ⟨nc, rfl, hnc0, hnc1, hcq, hzq⟩
 replace B2 := hzq.blkS B2 (by unfold at1; omega)
 replace B7 := hzq.blkS B7 (by unfold at1; omega)
 replace B8 := hzq.blkS B8 (by unfold at1; omega)
 replace RA := Own.at1g RA hzq (.inl g_RA)
 replace u_RA := Nat.le_trans u_RA hzq.size
 replace RL := Own.at1g RL hzq (.inl g_RL)
 replace u_RL := Nat.le_trans u_RL hzq.size
 replace R0 := Own.at1g R0 hzq (.inl g_R0)
 replace u_R0 := Nat.le_trans u_R0 hzq.size
 replace R1 := Own.at1g R1 hzq (.inl g_R1)
 replace u_R1 := Nat.le_trans u_R1 hzq.size
 replace s := s.draw hcq hzq
 replace hch := hch.trans (hzq.mono (fun b h => .inl h))
 clear hzq hcq
 go_wp2_with fail
 refine ⟨⟨⟨_, hch⟩, rfl⟩, ?_⟩
 repeat (first | go_big_quiet_step (fail) | quiet_step (fail))
 refine wpQuiet_nil ?_
 go_wp2_with fail
 have hbs : w1.heap.size ≤ w4.heap.size := s.x.size
 have ltq_B2 : w.heap.size < w4.heap.size := blk_lt B2
 have ltq_B7 : b7 < w4.heap.size := blk_lt B7
 have ltq_B8 : (b7 + 1) < w4.heap.size := blk_lt B8
 refine (s_l1Bytes g nc _ _ _ s.c (by omega) (by omega)).mono ?_
 rintro e w5 ⟨vy, yl, rfl, hyl, _, oY, hcq, hzq⟩
 replace B2 := hzq.blkS B2 (by unfold at1; omega)
 replace B7 := hzq.blkS B7 (by unfold at1; omega)
 replace B8 := hzq.blkS B8 (by unfold at1; omega)
 replace RA := Own.at1g RA hzq (.inl g_RA)
 replace u_RA := Nat.le_trans u_RA hzq.size
 replace RL := Own.at1g RL hzq (.inl g_RL)
 replace u_RL := Nat.le_trans u_RL hzq.size
 replace R0 := Own.at1g R0 hzq (.inl g_R0)
 replace u_R0 := Nat.le_trans u_R0 hzq.size
 replace R1 := Own.at1g R1 hzq (.inl g_R1)
 replace u_R1 := Nat.le_trans u_R1 hzq.size
 replace s := s.draw hcq hzq
 replace hch := hch.trans (hzq.mono (fun b h => .inl h))
 have RY : (Own.keep Rep.byte).own (rng w4.heap.size w5.heap.size) w5 vy yl := Own.toKeep (Own.ofFr (hf := byteFlen) oY (Nat.le_refl _))
 clear oY
 obtain ⟨oy, cy, rfl, _⟩ := RdS.shape (Own.rd _ RY)
 have hyl2 : yl.length ≤ 2 := by omega
 clear hyl
 have g_RY : g < w4.heap.size := by omega
 have u_RY : w5.heap.size ≤ w5.heap.size := by omega
 have lt_B2_RY : w.heap.size < w4.heap.size := by omega
 have lt_B7_RY : b7 < w4.heap.size := by omega
 have lt_B8_RY : (b7 + 1) < w4.heap.size := by omega
 clear hzq hcq hbs ltq_B2 ltq_B7 ltq_B8
 go_wp2_with fail
 refine ⟨⟨⟨_, hch⟩, rfl⟩, ?_⟩
 repeat (first | go_big_quiet_step (fail) | quiet_step (fail))
 refine wpQuiet_nil ?_
 have hxe := hx0.trans (hn1.ofCur s.x hgl)
 obtain ⟨wpa, hwa, hba, hca⟩ := ten_set B2 (.int .i64 x.kind) (.int .i64 x.src) (.int .i64 x.dst) (.slice o_0 x.path.parts.length c_0) (.int .i64 x.pi) (.int .i64 x.hi) (.int .i64 x.beta) (.int .i64 x.rid) (.int .i64 x.seq) (.slice o_1 x.pay.length c_1)
 have HWa := Lib.hid hwa
 clear hwa
 have ff0 := fr_of B2 0
 have ff1 := fr_of B2 1
 have ff2 := fr_of B2 2
 have ff3 := fr_of B2 3
 have ff4 := fr_of B2 4
 have ff5 := fr_of B2 5
 have ff6 := fr_of B2 6
 have ff7 := fr_of B2 7
 have ff8 := fr_of B2 8
 have ff9 := fr_of B2 9
 have cb := blk10 B2
 go_wp2_with fail
 rw [← HWa.out]
 clear HWa cb ff0 ff1 ff2 ff3 ff4 ff5 ff6 ff7 ff8 ff9
 replace hch := hch.trans (hca.mono (fun b h => .inr h))
 refine ⟨⟨⟨_, hch⟩, rfl⟩, ?_⟩
 replace RA := Own.at1g RA hca (by omega)
 replace u_RA := Nat.le_trans u_RA hca.size
 replace RL := Own.at1g RL hca (by omega)
 replace u_RL := Nat.le_trans u_RL hca.size
 replace R0 := Own.at1g R0 hca (by omega)
 replace u_R0 := Nat.le_trans u_R0 hca.size
 replace R1 := Own.at1g R1 hca (by omega)
 replace u_R1 := Nat.le_trans u_R1 hca.size
 replace RY := Own.at1g RY hca (by omega)
 replace u_RY := Nat.le_trans u_RY hca.size
 replace B7 := hca.blkS B7 (by unfold at1; omega)
 replace B8 := hca.blkS B8 (by unfold at1; omega)
 replace B2 := hba
 clear hba
 replace hxe := hxe.chg hca (fun i hi => by have h1 : i = w.heap.size := hi; omega)
 try clear hca
 repeat (first | go_big_quiet_step (fail) | quiet_step (fail))
 refine wpQuiet_nil ?_
 refine NoPanic.normal ?_
 clear hch q0 q1 q2 q3 q4 q5 q6 q7 q8 q9
 have cr_B2 := blk10 B2
 have cr_B7 := blk2 B7
 have cr_B8 := blk10 B8
 have hwb := (hx0.trans hn1).size
 go_wp2_with fail
 refine bodyPost_ret (v := .tuple #[.agg #[.int .i64 x.kind, .int .i64 x.src, .int .i64 x.dst, .slice o_0 x.path.parts.length c_0, .int .i64 x.pi, .int .i64 x.hi, .int .i64 x.beta, .int .i64 x.rid, .int .i64 x.seq, .slice o_1 x.pay.length c_1], .int .i64 (1 + na), .int .i64 nb, .slice oy yl.length cy]) (by simp [results, Tryz.results51, go_sem, cr_B2]) rfl ?_
 exact ⟨_, _, _, x, 1 + na, nb, yl, rfl, hxb, hyl2, (Own.upTo (Own.lo R0 (by omega)) (Nat.le_refl _)), (Own.upTo (Own.lo R1 (by omega)) (Nat.le_refl _)), (Own.upTo (Own.lo RY (by omega)) (Nat.le_refl _)), hxe⟩
end
end Go.Proofs.YtikbeiafobnblaaGreat
