/- What these laws need: FnFlips: The draws of the code: a path with its topology. -/
import Derived.Test.YtikbeiafobnblaaGreatKR16
import Derived.Test.YtikbeiafobnblaaGreatKR29
import Derived.Test.YtikbeiafobnblaaGreatKR30
import Derived.Test.YtikbeiafobnblaaGreatKR35
import Derived.Test.YtikbeiafobnblaaGreatKR48
namespace Go.Proofs.YtikbeiafobnblaaGreat
section
open Go.ChangeShapes Go.WideShapes Go.ChangeAt Go.RowKit Go.Deep
theorem hopsN_len : ∀ (l : List Part) (m : Nat), (∀ x ∈ l, x.hops.length ≤ m) → hopsN l ≤ l.length * m
 | [], m, _ => by simp [hopsN]
 | a :: l, m, h => by
  have h1 := hopsN_len l m (fun x hx => h x (List.mem_cons_of_mem _ hx))
  have h2 := h a (by simp)
  simp only [hopsN, Part.size, List.map_cons, List.sum_cons, List.length_cons] at h1 ⊢
  rw [Nat.succ_mul]; omega
theorem rev_len5 {p : Pth} (h : ∀ x ∈ p.parts, x.hops.length ≤ 5) : ∀ x ∈ (revPath p).parts, x.hops.length ≤ 5 := by
 intro x hx
 simp only [revPath, revParts, List.mem_reverse, List.mem_map] at hx
 obtain ⟨y, hy, rfl⟩ := hx
 simpa [revPart] using h y hy
theorem pth_size {p : Pth} (h1 : p.parts.length ≤ 4) (h2 : ∀ x ∈ p.parts, x.hops.length ≤ 5) : p.size ≤ 24 := by
 have h3 := hopsN_len p.parts 5 h2
 unfold Pth.size; omega
theorem steps_len {p : Pth} (h1 : p.parts.length ≤ 4) (h2 : ∀ x ∈ p.parts, x.hops.length ≤ 5) : (pathSteps p.parts).length ≤ 20 := by
 have h3 := hopsN_len p.parts 5 h2
 have h4 := pathSteps_len p.parts
 omega
set_option maxRecDepth 100000 in
set_option maxHeartbeats 20000000 in
theorem s_l22One (code : List Int) (cv : Value) (w : World) (hr : RdS Rep.byte w cv code) (hu : ∀ x ∈ code, U8 x) (hl : code.length ≤ 1048576) :
  Calls Tryz.prog 142 #[cv] w fun e w' => ∃ (g lo1 : Nat) (v1 v2 vp : Value) (t : Topo) (p : Pth), e = .returned (.tuple #[.pointer (some ⟨g, 0, none⟩), .agg #[v1, v2], .agg #[vp]]) ∧ TopoOk t ∧ p.parts.length ≤ 4 ∧ (∀ x ∈ p.parts, x.hops.length ≤ 5) ∧ (Own.keep ASd.rep).own (rng lo1 w'.heap.size) w' v1 t.ases ∧ (Own.keep Lnk.rep).own (rng lo1 w'.heap.size) w' v2 t.links ∧ (Own.keep Part.rep).own (rng lo1 w'.heap.size) w' vp p.parts ∧ w.heap.size ≤ g ∧ g < lo1 ∧ Cur g cv code w' ∧ Ext w w' := by
 have hx0 := ext2 w (.cells #[.slice none 0 0, .slice none 0 0] 33) (.cells #[.slice none 0 0] 26)
 have HB := al2 w (.cells #[.slice none 0 0, .slice none 0 0] 33) (.cells #[.slice none 0 0] 26)
 go_enter Tryz.func142, Tryz.ntmps142
 go_wp2_with fail
 refine (s_l1New code _ _ (hr.ext hx0) hu hl).mono ?_
 rintro e w1 ⟨g, rfl, hgl, hc1, hn1⟩
 have hgw := hc1.lt
 have s : DSt g cv code w1 w1 := ⟨hc1, Chg.refl _ _, hc1⟩
 have B3 := Ext.block hn1 HB.1
 have B4 := Ext.block hn1 HB.2
 have hgr : (w.heap.size + 1) < g := by simp at hgl; omega
 clear HB
 clear hc1
 have cb_B3 := blk2 B3
 have cb_B4 := blk1 B4
 go_wp2_with fail
 clear cb_B3 cb_B4
 have hbs : w1.heap.size ≤ w1.heap.size := s.x.size
 have ltq_B3 : w.heap.size < w1.heap.size := blk_lt B3
 have ltq_B4 : (w.heap.size + 1) < w1.heap.size := blk_lt B4
 refine (s_l22Any g _ _ _ s.c).mono ?_
 rintro e w2 ⟨v1, v2, vp, t, p, rfl, TK, hp4, hx5, RA, RL, RP, hcq, hzq⟩
 replace B3 := hzq.blkS B3 (by unfold at1; omega)
 replace B4 := hzq.blkS B4 (by unfold at1; omega)
 replace s := s.draw hcq hzq
 obtain ⟨o1, c1, rfl, _⟩ := RdS.shape (Own.rd _ RA)
 obtain ⟨o2, c2, rfl, _⟩ := RdS.shape (Own.rd _ RL)
 obtain ⟨op_, cp_, rfl, _⟩ := RdS.shape (Own.rd _ RP)
 have g_RA : g < w1.heap.size := by omega
 have u_RA : w2.heap.size ≤ w2.heap.size := by omega
 have lt_B3_RA : w.heap.size < w1.heap.size := by omega
 have lt_B4_RA : (w.heap.size + 1) < w1.heap.size := by omega
 have g_RL : g < w1.heap.size := by omega
 have u_RL : w2.heap.size ≤ w2.heap.size := by omega
 have lt_B3_RL : w.heap.size < w1.heap.size := by omega
 have lt_B4_RL : (w.heap.size + 1) < w1.heap.size := by omega
 have g_RP : g < w1.heap.size := by omega
 have u_RP : w2.heap.size ≤ w2.heap.size := by omega
 have lt_B3_RP : w.heap.size < w1.heap.size := by omega
 have lt_B4_RP : (w.heap.size + 1) < w1.heap.size := by omega
 clear hzq hcq hbs ltq_B3 ltq_B4
 have cb_B3 := blk2 B3
 have cb_B4 := blk1 B4
 go_upto_region 3 with (fail)
 clear cb_B3 cb_B4
 have hxa := ext2 w2 (.cells #[.slice o1 t.ases.length c1, .slice o2 t.links.length c2] 33) (.cells #[.slice op_ p.parts.length cp_] 26)
 have BB := al2 w2 (.cells #[.slice o1 t.ases.length c1, .slice o2 t.links.length c2] 33) (.cells #[.slice op_ p.parts.length cp_] 26)
 obtain ⟨b6, eb6⟩ : ∃ b, b = w2.heap.size := ⟨_, rfl⟩
 have ltw_b6 : w1.heap.size ≤ b6 := by rw [eb6]; exact s.x.size
 have lt_B3_b6 : w.heap.size < b6 := by rw [eb6]; exact blk_lt B3
 have lt_B4_b6 : (w.heap.size + 1) < b6 := by rw [eb6]; exact blk_lt B4
 have hb_RA_b6 : w2.heap.size ≤ b6 := by rw [eb6]; exact u_RA
 have hb_RL_b6 : w2.heap.size ≤ b6 := by rw [eb6]; exact u_RL
 have hb_RP_b6 : w2.heap.size ≤ b6 := by rw [eb6]; exact u_RP
 replace B3 := Ext.block hxa B3
 replace B4 := Ext.block hxa B4
 replace RA := Own.ext RA hxa
 replace u_RA := Nat.le_trans u_RA hxa.size
 replace RL := Own.ext RL hxa
 replace u_RL := Nat.le_trans u_RL hxa.size
 replace RP := Own.ext RP hxa
 replace u_RP := Nat.le_trans u_RP hxa.size
 replace s := s.ext hxa
 have B6 := BB.1
 have B7 := BB.2
 rw [← eb6] at B6 B7
 rw [← eb6]
 clear hxa BB
 generalize ((w2.alloc (.cells #[.slice o1 t.ases.length c1, .slice o2 t.links.length c2] 33)).alloc (.cells #[.slice op_ p.parts.length cp_] 26)) = wa at B3 B4 B6 B7 RA RL RP u_RA u_RL u_RP s ⊢
 clear eb6
 refine wp_region_fin (at1 w.heap.size) [([0, 1, 2, 3], 4)] [] [5] (by kernel_rfl) (by kernel_rfl) (by kernel_rfl) ?_
 have ch_B6 := blk2 B6
 have q0 := ChgSW.cell (S := at1 w.heap.size) (ch_B6.1) (by first | (unfold at1; simp only; omega) | (simp only; omega))
 have q1 := ChgSW.cell (S := at1 w.heap.size) (ch_B6.2) (by first | (unfold at1; simp only; omega) | (simp only; omega))
 clear ch_B6
 have ch_B7 := blk1 B7
 have q2 := ChgSW.cell (S := at1 w.heap.size) (ch_B7) (by first | (unfold at1; simp only; omega) | (simp only; omega))
 clear ch_B7
 simp only [wpBlocksX, pickOps, PK]
 have hch : Chg (at1 w.heap.size) wa wa.drew := Chg.ofExt (Ext.refl wa).drew
 replace B3 := Ext.block ((Ext.refl wa).drew) B3
 replace B4 := Ext.block ((Ext.refl wa).drew) B4
 replace B6 := Ext.block ((Ext.refl wa).drew) B6
 replace B7 := Ext.block ((Ext.refl wa).drew) B7
 replace RA := Own.ext RA ((Ext.refl wa).drew)
 replace u_RA := Nat.le_trans u_RA ((Ext.refl wa).drew).size
 replace RL := Own.ext RL ((Ext.refl wa).drew)
 replace u_RL := Nat.le_trans u_RL ((Ext.refl wa).drew).size
 replace RP := Own.ext RP ((Ext.refl wa).drew)
 replace u_RP := Nat.le_trans u_RP ((Ext.refl wa).drew).size
 replace s := s.ext ((Ext.refl wa).drew)
 obtain ⟨wt, hnw⟩ : ∃ wn, wn = wa.drew := ⟨_, rfl⟩
 rw [← hnw] at B3 B4 B6 B7 RA RL RP u_RA u_RL u_RP s hch ⊢
 clear hnw
 repeat (first | go_big_quiet_step (fail) | quiet_step (fail))
 refine wpQuiet_nil ?_
 have hcu := s.c
 have hxe := hx0.trans (hn1.ofCur s.x hgl)
 obtain ⟨wpa, hwa, hba, hca⟩ := two_set B3 (.slice o1 t.ases.length c1) (.slice o2 t.links.length c2)
 have HWa := Lib.hid hwa
 clear hwa
 have ff0 := fr_of B3 0
 have ff1 := fr_of B3 1
 have cb := blk2 B3
 go_wp2_with fail
 rw [← HWa.out]
 clear HWa cb ff0 ff1
 replace hch := hch.trans (hca.mono (fun b h => h))
 refine ⟨⟨⟨_, hch⟩, rfl⟩, ?_⟩
 replace RA := Own.at1g RA hca (by omega)
 replace u_RA := Nat.le_trans u_RA hca.size
 replace RL := Own.at1g RL hca (by omega)
 replace u_RL := Nat.le_trans u_RL hca.size
 replace RP := Own.at1g RP hca (by omega)
 replace u_RP := Nat.le_trans u_RP hca.size
 replace B4 := hca.blkS B4 (by unfold at1; omega)
 replace B6 := hca.blkS B6 (by unfold at1; omega)
 replace B7 := hca.blkS B7 (by unfold at1; omega)
 replace B3 := hba
 clear hba
 replace hxe := hxe.chg hca (fun i hi => by have h1 : i = w.heap.size := hi; omega)
 replace hcu := Cur.ofCode hr hcu hca (fun h => by have h1 : g = w.heap.size := h; omega) hxe (by omega)
 try clear hca
 repeat (first | go_big_quiet_step (fail) | quiet_step (fail))
 refine wpQuiet_nil ?_
 obtain ⟨wpb, hwb, hbb, hcb⟩ := set1 B4 (.slice op_ p.parts.length cp_)
 have HWb := Lib.hid hwb
 clear hwb
 have ff0 := fr_of B4 0
 have cb := blk1 B4
 go_wp2_with fail
 rw [← HWb.out]
 clear HWb cb ff0
 replace RA := Own.at1g RA hcb (by omega)
 replace u_RA := Nat.le_trans u_RA hcb.size
 replace RL := Own.at1g RL hcb (by omega)
 replace u_RL := Nat.le_trans u_RL hcb.size
 replace RP := Own.at1g RP hcb (by omega)
 replace u_RP := Nat.le_trans u_RP hcb.size
 replace B3 := hcb.blkS B3 (by unfold at1; omega)
 replace B6 := hcb.blkS B6 (by unfold at1; omega)
 replace B7 := hcb.blkS B7 (by unfold at1; omega)
 replace B4 := hbb
 clear hbb
 replace hxe := hxe.chg hcb (fun i hi => by have h1 : i = (w.heap.size + 1) := hi; omega)
 replace hcu := Cur.ofCode hr hcu hcb (fun h => by have h1 : g = (w.heap.size + 1) := h; omega) hxe (by omega)
 try clear hcb
 refine NoPanic.normal ?_
 clear hch q0 q1 q2
 have cr_B3 := blk2 B3
 have cr_B4 := blk1 B4
 have cr_B6 := blk2 B6
 have cr_B7 := blk1 B7
 have hwb := (hx0.trans hn1).size
 go_wp2_with fail
 refine bodyPost_ret (v := .tuple #[.pointer (some ⟨g, 0, none⟩), .agg #[.slice o1 t.ases.length c1, .slice o2 t.links.length c2], .agg #[.slice op_ p.parts.length cp_]]) (by simp [results, Tryz.results142, go_sem, cr_B3, cr_B4]) rfl ?_
 exact ⟨g, _, _, _, _, t, p, rfl, TK, hp4, hx5, (Own.upTo RA (Nat.le_refl _)), (Own.upTo RL (Nat.le_refl _)), (Own.upTo RP (Nat.le_refl _)), (by omega), g_RA, hcu, hxe⟩
set_option maxRecDepth 100000 in
set_option maxHeartbeats 20000000 in
theorem s_DrawPathUsable (code : List Int) (cv : Value) (w : World) (hr : RdS Rep.byte w cv code) (hu : ∀ x ∈ code, U8 x) (hl : code.length ≤ 1048576) :
  Calls Tryz.prog 143 #[cv] w fun e w' => ∃ (v1 v2 vp : Value) (t : Topo) (p : Pth) (n : Int), e = .returned (.tuple #[.agg #[v1, v2], .agg #[vp], .int .i64 n]) ∧ TopoOk t ∧ p.parts.length ≤ 4 ∧ (∀ x ∈ p.parts, x.hops.length ≤ 5) ∧ 0 ≤ n ∧ n ≤ 100 ∧ (Own.keep ASd.rep).own (rng w.heap.size w'.heap.size) w' v1 t.ases ∧ (Own.keep Lnk.rep).own (rng w.heap.size w'.heap.size) w' v2 t.links ∧ (Own.keep Part.rep).own (rng w.heap.size w'.heap.size) w' vp p.parts ∧ Ext w w' := by
 have hx0 := ext2 w (.cells #[.slice none 0 0, .slice none 0 0] 33) (.cells #[.slice none 0 0] 26)
 have HB := al2 w (.cells #[.slice none 0 0, .slice none 0 0] 33) (.cells #[.slice none 0 0] 26)
 go_enter Tryz.func143, Tryz.ntmps143
 go_wp2_with fail
 refine (s_l22One code _ _ (hr.ext hx0) hu hl).mono ?_
 rintro e w1 ⟨g, lo1, v1, v2, vp, t, p, rfl, TK, hp4, hx5, RA, RL, RP, hgl, hglo, hc1, hn1⟩
 have hgw := hc1.lt
 have s : DSt g cv code w1 w1 := ⟨hc1, Chg.refl _ _, hc1⟩
 have B2 := Ext.block hn1 HB.1
 have B3 := Ext.block hn1 HB.2
 have hgr : (w.heap.size + 1) < g := by simp at hgl; omega
 clear HB
 have g_RA : g < lo1 := hglo
 have u_RA : w1.heap.size ≤ w1.heap.size := Nat.le_refl _
 have lt_B2_RA : w.heap.size < lo1 := by omega
 have lt_B3_RA : (w.heap.size + 1) < lo1 := by omega
 have g_RL : g < lo1 := hglo
 have u_RL : w1.heap.size ≤ w1.heap.size := Nat.le_refl _
 have lt_B2_RL : w.heap.size < lo1 := by omega
 have lt_B3_RL : (w.heap.size + 1) < lo1 := by omega
 have g_RP : g < lo1 := hglo
 have u_RP : w1.heap.size ≤ w1.heap.size := Nat.le_refl _
 have lt_B2_RP : w.heap.size < lo1 := by omega
 have lt_B3_RP : (w.heap.size + 1) < lo1 := by omega
 obtain ⟨o1, c1, rfl, _⟩ := RdS.shape (Own.rd _ RA)
 obtain ⟨o2, c2, rfl, _⟩ := RdS.shape (Own.rd _ RL)
 obtain ⟨op_, cp_, rfl, _⟩ := RdS.shape (Own.rd _ RP)
 clear hc1
 have cb_B2 := blk2 B2
 have cb_B3 := blk1 B3
 go_upto_region 2 with (fail)
 clear cb_B2 cb_B3
 have hxa := ext2 w1 (.cells #[.slice o1 t.ases.length c1, .slice o2 t.links.length c2] 33) (.cells #[.slice op_ p.parts.length cp_] 26)
 have BB := al2 w1 (.cells #[.slice o1 t.ases.length c1, .slice o2 t.links.length c2] 33) (.cells #[.slice op_ p.parts.length cp_] 26)
 obtain ⟨b6, eb6⟩ : ∃ b, b = w1.heap.size := ⟨_, rfl⟩
 have ltw_b6 : w1.heap.size ≤ b6 := by rw [eb6]; exact s.x.size
 have lt_B2_b6 : w.heap.size < b6 := by rw [eb6]; exact blk_lt B2
 have lt_B3_b6 : (w.heap.size + 1) < b6 := by rw [eb6]; exact blk_lt B3
 have hb_RA_b6 : w1.heap.size ≤ b6 := by rw [eb6]; exact u_RA
 have hb_RL_b6 : w1.heap.size ≤ b6 := by rw [eb6]; exact u_RL
 have hb_RP_b6 : w1.heap.size ≤ b6 := by rw [eb6]; exact u_RP
 replace B2 := Ext.block hxa B2
 replace B3 := Ext.block hxa B3
 replace RA := Own.ext RA hxa
 replace u_RA := Nat.le_trans u_RA hxa.size
 replace RL := Own.ext RL hxa
 replace u_RL := Nat.le_trans u_RL hxa.size
 replace RP := Own.ext RP hxa
 replace u_RP := Nat.le_trans u_RP hxa.size
 replace s := s.ext hxa
 have B6 := BB.1
 have B7 := BB.2
 rw [← eb6] at B6 B7
 rw [← eb6]
 clear hxa BB
 generalize ((w1.alloc (.cells #[.slice o1 t.ases.length c1, .slice o2 t.links.length c2] 33)).alloc (.cells #[.slice op_ p.parts.length cp_] 26)) = wa at B2 B3 B6 B7 RA RL RP u_RA u_RL u_RP s ⊢
 clear eb6
 refine wp_region_fin (fun k => k = g ∨ k = w.heap.size ∨ k = w.heap.size + 1) [([0, 1, 2], 3), ([4], 5), ([], 6)] [7] [] (by kernel_rfl) (by kernel_rfl) (by kernel_rfl) ?_
 have ch_B6 := blk2 B6
 have q0 := ChgSW.cell (S := fun k => k = g ∨ k = w.heap.size ∨ k = w.heap.size + 1) (ch_B6.1) (by first | (unfold at1; simp only; omega) | (simp only; omega))
 have q1 := ChgSW.cell (S := fun k => k = g ∨ k = w.heap.size ∨ k = w.heap.size + 1) (ch_B6.2) (by first | (unfold at1; simp only; omega) | (simp only; omega))
 clear ch_B6
 have ch_B7 := blk1 B7
 have q2 := ChgSW.cell (S := fun k => k = g ∨ k = w.heap.size ∨ k = w.heap.size + 1) (ch_B7) (by first | (unfold at1; simp only; omega) | (simp only; omega))
 clear ch_B7
 simp only [wpBlocksX, pickOps, PK]
 have hch : Chg (fun k => k = g ∨ k = w.heap.size ∨ k = w.heap.size + 1) wa wa.drew := Chg.ofExt (Ext.refl wa).drew
 replace B2 := Ext.block ((Ext.refl wa).drew) B2
 replace B3 := Ext.block ((Ext.refl wa).drew) B3
 replace B6 := Ext.block ((Ext.refl wa).drew) B6
 replace B7 := Ext.block ((Ext.refl wa).drew) B7
 replace RA := Own.ext RA ((Ext.refl wa).drew)
 replace u_RA := Nat.le_trans u_RA ((Ext.refl wa).drew).size
 replace RL := Own.ext RL ((Ext.refl wa).drew)
 replace u_RL := Nat.le_trans u_RL ((Ext.refl wa).drew).size
 replace RP := Own.ext RP ((Ext.refl wa).drew)
 replace u_RP := Nat.le_trans u_RP ((Ext.refl wa).drew).size
 replace s := s.ext ((Ext.refl wa).drew)
 obtain ⟨wt, hnw⟩ : ∃ wn, wn = wa.drew := ⟨_, rfl⟩
 rw [← hnw] at B2 B3 B6 B7 RA RL RP u_RA u_RL u_RP s hch ⊢
 clear hnw
 repeat (first | go_big_quiet_step (fail) | quiet_step (fail))
 refine wpQuiet_nil ?_
 go_wp2_with fail
 refine (s_l1Below g (30) _ _ _ s.c).mono ?_
 rintro e w2 ⟨nw, rfl, hn0, hn1b, hcq, hzq⟩
 replace B2 := hzq.blkS B2 (by unfold at1; omega)
 replace B3 := hzq.blkS B3 (by unfold at1; omega)
 replace B6 := hzq.blkS B6 (by unfold at1; omega)
 replace B7 := hzq.blkS B7 (by unfold at1; omega)
 replace RA := Own.at1g RA hzq (.inl g_RA)
 replace u_RA := Nat.le_trans u_RA hzq.size
 replace RL := Own.at1g RL hzq (.inl g_RL)
 replace u_RL := Nat.le_trans u_RL hzq.size
 replace RP := Own.at1g RP hzq (.inl g_RP)
 replace u_RP := Nat.le_trans u_RP hzq.size
 replace s := s.draw hcq hzq
 replace hch := hch.trans (hzq.mono (fun b h => .inl h))
 clear hzq hcq
 go_wp2_with fail
 refine ⟨⟨⟨_, hch⟩, rfl⟩, ?_⟩
 repeat (first | go_big_quiet_step (fail) | quiet_step (fail))
 refine wpQuiet_nil ?_
 have hxe := hx0.trans (hn1.ofCur s.x hgl)
 obtain ⟨wpa, hwa, hba, hca⟩ := two_set B2 (.slice o1 t.ases.length c1) (.slice o2 t.links.length c2)
 have HWa := Lib.hid hwa
 clear hwa
 have ff0 := fr_of B2 0
 have ff1 := fr_of B2 1
 have cb := blk2 B2
 go_wp2_with fail
 rw [← HWa.out]
 clear HWa cb ff0 ff1
 replace hch := hch.trans (hca.mono (fun b h => .inr (.inl h)))
 refine ⟨⟨⟨_, hch⟩, rfl⟩, ?_⟩
 replace RA := Own.at1g RA hca (by omega)
 replace u_RA := Nat.le_trans u_RA hca.size
 replace RL := Own.at1g RL hca (by omega)
 replace u_RL := Nat.le_trans u_RL hca.size
 replace RP := Own.at1g RP hca (by omega)
 replace u_RP := Nat.le_trans u_RP hca.size
 replace B3 := hca.blkS B3 (by unfold at1; omega)
 replace B6 := hca.blkS B6 (by unfold at1; omega)
 replace B7 := hca.blkS B7 (by unfold at1; omega)
 replace B2 := hba
 clear hba
 replace hxe := hxe.chg hca (fun i hi => by have h1 : i = w.heap.size := hi; omega)
 try clear hca
 repeat (first | go_big_quiet_step (fail) | quiet_step (fail))
 refine wpQuiet_nil ?_
 obtain ⟨wpb, hwb, hbb, hcb⟩ := set1 B3 (.slice op_ p.parts.length cp_)
 have HWb := Lib.hid hwb
 clear hwb
 have ff0 := fr_of B3 0
 have cb := blk1 B3
 go_wp2_with fail
 rw [← HWb.out]
 clear HWb cb ff0
 replace hch := hch.trans (hcb.mono (fun b h => .inr (.inr h)))
 refine ⟨⟨⟨_, hch⟩, rfl⟩, ?_⟩
 replace RA := Own.at1g RA hcb (by omega)
 replace u_RA := Nat.le_trans u_RA hcb.size
 replace RL := Own.at1g RL hcb (by omega)
 replace u_RL := Nat.le_trans u_RL hcb.size
 replace RP := Own.at1g RP hcb (by omega)
 replace u_RP := Nat.le_trans u_RP hcb.size
 replace B2 := hcb.blkS B2 (by unfold at1; omega)
 replace B6 := hcb.blkS B6 (by unfold at1; omega)
 replace B7 := hcb.blkS B7 (by unfold at1; omega)
 replace B3 := hbb
 clear hbb
 replace hxe := hxe.chg hcb (fun i hi => by have h1 : i = (w.heap.size + 1) := hi; omega)
 try clear hcb
 repeat (first | go_big_quiet_step (fail) | quiet_step (fail))
 refine wpQuiet_nil ?_
 refine NoPanic.normal ?_
 clear hch q0 q1 q2
 have cr_B2 := blk2 B2
 have cr_B3 := blk1 B3
 have cr_B6 := blk2 B6
 have cr_B7 := blk1 B7
 have hwb := (hx0.trans hn1).size
 go_wp2_with fail
 refine bodyPost_ret (v := .tuple #[.agg #[.slice o1 t.ases.length c1, .slice o2 t.links.length c2], .agg #[.slice op_ p.parts.length cp_], .int .i64 (40 + nw)]) (by simp [results, Tryz.results143, go_sem, cr_B2, cr_B3]) rfl ?_
 exact ⟨_, _, _, t, p, 40 + nw, rfl, TK, hp4, hx5, by omega, by omega, (Own.upTo (Own.lo RA (by omega)) (Nat.le_refl _)), (Own.upTo (Own.lo RL (by omega)) (Nat.le_refl _)), (Own.upTo (Own.lo RP (by omega)) (Nat.le_refl _)), hxe⟩
set_option maxRecDepth 100000 in
set_option maxHeartbeats 20000000 in
theorem s_DrawBidirectional (code : List Int) (cv : Value) (w : World) (hr : RdS Rep.byte w cv code) (hu : ∀ x ∈ code, U8 x) (hl : code.length ≤ 1048576) :
  Calls Tryz.prog 30 #[cv] w fun e w' => ∃ (v1 v2 vp : Value) (t : Topo) (p : Pth) (n : Int), e = .returned (.tuple #[.agg #[v1, v2], .agg #[vp], .int .i64 n]) ∧ TopoOk t ∧ p.parts.length ≤ 4 ∧ (∀ x ∈ p.parts, x.hops.length ≤ 5) ∧ 0 ≤ n ∧ n ≤ 100 ∧ (Own.keep ASd.rep).own (rng w.heap.size w'.heap.size) w' v1 t.ases ∧ (Own.keep Lnk.rep).own (rng w.heap.size w'.heap.size) w' v2 t.links ∧ (Own.keep Part.rep).own (rng w.heap.size w'.heap.size) w' vp p.parts ∧ Ext w w' := by
 have hx0 := ext2 w (.cells #[.slice none 0 0, .slice none 0 0] 33) (.cells #[.slice none 0 0] 26)
 have HB := al2 w (.cells #[.slice none 0 0, .slice none 0 0] 33) (.cells #[.slice none 0 0] 26)
 have hls : w.heap.size + 2 ≤ ((w.alloc (.cells #[.slice none 0 0, .slice none 0 0] 33)).alloc (.cells #[.slice none 0 0] 26)).heap.size := by simp
 go_enter Tryz.func30, Tryz.ntmps30
 go_wp2_with fail
 refine (s_DrawPathUsable code _ _ (hr.ext hx0) hu hl).mono ?_
 rintro e w1 ⟨v1, v2, vp, t, p, n, rfl, TK, hp4, hx5, h0, h1, RA, RL, RP, hn1⟩
 have B2 := Ext.block hn1 HB.1
 have B3 := Ext.block hn1 HB.2
 clear HB
 have hxe := hx0.trans hn1
 replace RA := Own.lo RA hls
 have u_RA : w1.heap.size ≤ w1.heap.size := Nat.le_refl _
 replace RL := Own.lo RL hls
 have u_RL : w1.heap.size ≤ w1.heap.size := Nat.le_refl _
 replace RP := Own.lo RP hls
 have u_RP : w1.heap.size ≤ w1.heap.size := Nat.le_refl _
 obtain ⟨o1, c1, rfl, _⟩ := RdS.shape (Own.rd _ RA)
 obtain ⟨o2, c2, rfl, _⟩ := RdS.shape (Own.rd _ RL)
 obtain ⟨op_, cp_, rfl, _⟩ := RdS.shape (Own.rd _ RP)
 obtain ⟨wpc, hwc, hbc, hcc⟩ := two_set B2 (.slice o1 t.ases.length c1) (.slice o2 t.links.length c2)
 have HWc := Lib.hid hwc
 clear hwc
 have fc0 := fr_of B2 0
 have fc1 := fr_of B2 1
 have fk0 := fr_of B3 0
 have cb_B2 := blk2 B2
 have cb_B3 := blk1 B3
 go_wp2_with fail
 clear cb_B2 cb_B3
 rw [← HWc.out]
 clear HWc fc0 fc1 fk0
 replace RA := Own.at1g RA hcc (by omega)
 replace u_RA := Nat.le_trans u_RA hcc.size
 replace RL := Own.at1g RL hcc (by omega)
 replace u_RL := Nat.le_trans u_RL hcc.size
 replace RP := Own.at1g RP hcc (by omega)
 replace u_RP := Nat.le_trans u_RP hcc.size
 replace B3 := hcc.blkS B3 (by unfold at1; omega)
 replace B2 := hbc
 clear hbc
 replace hxe := hxe.chg hcc (fun i hi => by have h1 : i = w.heap.size := hi; omega)
 try clear hcc
 obtain ⟨wpd, hwd, hbd, hcd⟩ := set1 B3 (.slice op_ p.parts.length cp_)
 rw [← hwd]
 clear hwd
 replace RA := Own.at1g RA hcd (by omega)
 replace u_RA := Nat.le_trans u_RA hcd.size
 replace RL := Own.at1g RL hcd (by omega)
 replace u_RL := Nat.le_trans u_RL hcd.size
 replace RP := Own.at1g RP hcd (by omega)
 replace u_RP := Nat.le_trans u_RP hcd.size
 replace B2 := hcd.blkS B2 (by unfold at1; omega)
 replace B3 := hbd
 clear hbd
 replace hxe := hxe.chg hcd (fun i hi => by have h1 : i = (w.heap.size + 1) := hi; omega)
 try clear hcd
 have cr_B2 := blk2 B2
 have cr_B3 := blk1 B3
 have hwb := (hx0.trans hn1).size
 go_wp2_with fail
 refine bodyPost_ret (v := .tuple #[.agg #[.slice o1 t.ases.length c1, .slice o2 t.links.length c2], .agg #[.slice op_ p.parts.length cp_], .int .i64 n]) (by simp [results, Tryz.results30, go_sem, cr_B2, cr_B3]) rfl ?_
 exact ⟨_, _, _, t, p, n, rfl, TK, hp4, hx5, h0, h1, (Own.upTo (Own.lo RA (by omega)) (Nat.le_refl _)), (Own.upTo (Own.lo RL (by omega)) (Nat.le_refl _)), (Own.upTo (Own.lo RP (by omega)) (Nat.le_refl _)), hxe⟩
set_option maxRecDepth 100000 in
set_option maxHeartbeats 4000000 in
theorem s_DrawReverseKind (code : List Int) (cv : Value) (w : World) (hr : RdS Rep.byte w cv code) (hu : ∀ x ∈ code, U8 x) (hl : code.length ≤ 1048576) :
  Calls Tryz.prog 27 #[cv] w fun e w' => ∃ n : Int, e = .returned (.int .i64 n) ∧ -1 ≤ n ∧ n ≤ 6 ∧ Ext w w' := by
 have hx0 := Ext.refl w
 go_enter Tryz.func27, Tryz.ntmps27
 go_wp2_with fail
 refine (s_l1New code _ _ (hr.ext hx0) hu hl).mono ?_
 rintro e w1 ⟨g, rfl, hgl, hc1, hn1⟩
 have hgw := hc1.lt
 have s : DSt g cv code w1 w1 := ⟨hc1, Chg.refl _ _, hc1⟩
 clear hc1
 go_wp2_with fail
 refine (s_l1Below g (7) _ _ _ s.c).mono ?_
 rintro e w2 ⟨nw, rfl, hn0, hn1b, hcq, hzq⟩
 replace s := s.draw hcq hzq
 clear hzq hcq
 have hxe := hx0.trans (hn1.ofCur s.x hgl)
 go_wp2_with fail
 go_ret
 exact ⟨_, rfl, by omega, by omega, hxe⟩
set_option maxRecDepth 100000 in
set_option maxHeartbeats 20000000 in
theorem s_DrawReversePath (code : List Int) (cv : Value) (w : World) (hr : RdS Rep.byte w cv code) (hu : ∀ x ∈ code, U8 x) (hl : code.length ≤ 1048576) :
  Calls Tryz.prog 29 #[cv] w fun e w' => ∃ (vp : Value) (p : Pth), e = .returned (.agg #[vp]) ∧ p.parts.length ≤ 4 ∧ (∀ x ∈ p.parts, x.hops.length ≤ 5) ∧ (Own.keep Part.rep).own (rng w.heap.size w'.heap.size) w' vp p.parts ∧ Ext w w' := by
 have hx0 : Ext w (w.alloc (.cells #[.slice none 0 0] 26)) := (Ext.refl _).alloc _
 have HB := blk_new w (.cells #[.slice none 0 0] 26)
 go_enter Tryz.func29, Tryz.ntmps29
 go_wp2_with fail
 refine (s_l22One code _ _ (hr.ext hx0) hu hl).mono ?_
 rintro e w1 ⟨g, lo1, v1, v2, vp, t, p, rfl, TK, hp4, hx5, RA, RL, RP, hgl, hglo, hc1, hn1⟩
 have hgw := hc1.lt
 have s : DSt g cv code w1 w1 := ⟨hc1, Chg.refl _ _, hc1⟩
 have B2 := Ext.block hn1 HB
 have hgr : w.heap.size < g := by simp at hgl; omega
 clear HB
 have g_RA : g < lo1 := hglo
 have u_RA : w1.heap.size ≤ w1.heap.size := Nat.le_refl _
 have lt_B2_RA : w.heap.size < lo1 := by omega
 have g_RL : g < lo1 := hglo
 have u_RL : w1.heap.size ≤ w1.heap.size := Nat.le_refl _
 have lt_B2_RL : w.heap.size < lo1 := by omega
 have g_RP : g < lo1 := hglo
 have u_RP : w1.heap.size ≤ w1.heap.size := Nat.le_refl _
 have lt_B2_RP : w.heap.size < lo1 := by omega
 obtain ⟨o1, c1, rfl, _⟩ := RdS.shape (Own.rd _ RA)
 obtain ⟨o2, c2, rfl, _⟩ := RdS.shape (Own.rd _ RL)
 obtain ⟨op_, cp_, rfl, _⟩ := RdS.shape (Own.rd _ RP)
 clear hc1
 have cb_B2 := blk1 B2
 go_upto_region 2 with (fail)
 clear cb_B2
 have hxa := ext2 w1 (.cells #[.slice o1 t.ases.length c1, .slice o2 t.links.length c2] 33) (.cells #[.slice op_ p.parts.length cp_] 26)
 have BB := al2 w1 (.cells #[.slice o1 t.ases.length c1, .slice o2 t.links.length c2] 33) (.cells #[.slice op_ p.parts.length cp_] 26)
 obtain ⟨b6, eb6⟩ : ∃ b, b = w1.heap.size := ⟨_, rfl⟩
 have ltw_b6 : w1.heap.size ≤ b6 := by rw [eb6]; exact s.x.size
 have lt_B2_b6 : w.heap.size < b6 := by rw [eb6]; exact blk_lt B2
 have hb_RA_b6 : w1.heap.size ≤ b6 := by rw [eb6]; exact u_RA
 have hb_RL_b6 : w1.heap.size ≤ b6 := by rw [eb6]; exact u_RL
 have hb_RP_b6 : w1.heap.size ≤ b6 := by rw [eb6]; exact u_RP
 replace B2 := Ext.block hxa B2
 replace RA := Own.ext RA hxa
 replace u_RA := Nat.le_trans u_RA hxa.size
 replace RL := Own.ext RL hxa
 replace u_RL := Nat.le_trans u_RL hxa.size
 replace RP := Own.ext RP hxa
 replace u_RP := Nat.le_trans u_RP hxa.size
 replace s := s.ext hxa
 have B6 := BB.1
 have B7 := BB.2
 rw [← eb6] at B6 B7
 rw [← eb6]
 clear hxa BB
 generalize ((w1.alloc (.cells #[.slice o1 t.ases.length c1, .slice o2 t.links.length c2] 33)).alloc (.cells #[.slice op_ p.parts.length cp_] 26)) = wa at B2 B6 B7 RA RL RP u_RA u_RL u_RP s ⊢
 clear eb6
 obtain ⟨wpd, hwd, hbd, hcd⟩ := set1 B2 (.slice op_ p.parts.length cp_)
 have ff0 := fr_of B2 0
 have HWd := Lib.hid hwd
 clear hwd
 have cb_B2 := blk1 B2
 have cb_B6 := blk2 B6
 have cb_B7 := blk1 B7
 go_wp2_with fail
 clear cb_B2 cb_B6 cb_B7
 rw [← HWd.out]
 clear HWd ff0
 have hxe := hx0.trans (hn1.ofCur s.x hgl)
 replace RA := Own.at1g RA hcd (by omega)
 replace u_RA := Nat.le_trans u_RA hcd.size
 replace RL := Own.at1g RL hcd (by omega)
 replace u_RL := Nat.le_trans u_RL hcd.size
 replace RP := Own.at1g RP hcd (by omega)
 replace u_RP := Nat.le_trans u_RP hcd.size
 replace B6 := hcd.blkS B6 (by unfold at1; omega)
 replace B7 := hcd.blkS B7 (by unfold at1; omega)
 replace B2 := hbd
 clear hbd
 replace hxe := hxe.chg hcd (fun i hi => by have h1 : i = w.heap.size := hi; omega)
 try clear hcd
 have cr_B2 := blk1 B2
 have cr_B6 := blk2 B6
 have cr_B7 := blk1 B7
 have hwb := (hx0.trans hn1).size
 go_wp2_with fail
 refine bodyPost_ret (v := .agg #[.slice op_ p.parts.length cp_]) (by simp [results, Tryz.results29, go_sem, cr_B2]) rfl ?_
 exact ⟨_, p, rfl, hp4, hx5, (Own.upTo (Own.lo RP (by omega)) (Nat.le_refl _)), hxe⟩
set_option maxRecDepth 100000 in
set_option maxHeartbeats 20000000 in
theorem s_DrawReverseSteps (code : List Int) (cv : Value) (w : World) (hr : RdS Rep.byte w cv code) (hu : ∀ x ∈ code, U8 x) (hl : code.length ≤ 1048576) :
  Calls Tryz.prog 32 #[cv] w fun e w' => ∃ (v : Value) (l : List Step), e = .returned v ∧ l.length ≤ 20 ∧ RdS Step.rep w' v l ∧ Ext w w' := by
 have hx0 := Ext.refl w
 go_enter Tryz.func32, Tryz.ntmps32
 go_wp2_with fail
 refine (s_l22One code _ _ (hr.ext hx0) hu hl).mono ?_
 rintro e w1 ⟨g, lo1, v1, v2, vp, t, p, rfl, TK, hp4, hx5, RA, RL, RP, hgl, hglo, hc1, hn1⟩
 have hgw := hc1.lt
 have s : DSt g cv code w1 w1 := ⟨hc1, Chg.refl _ _, hc1⟩
 have g_RA : g < lo1 := hglo
 have u_RA : w1.heap.size ≤ w1.heap.size := Nat.le_refl _
 have g_RL : g < lo1 := hglo
 have u_RL : w1.heap.size ≤ w1.heap.size := Nat.le_refl _
 have g_RP : g < lo1 := hglo
 have u_RP : w1.heap.size ≤ w1.heap.size := Nat.le_refl _
 obtain ⟨o1, c1, rfl, _⟩ := RdS.shape (Own.rd _ RA)
 obtain ⟨o2, c2, rfl, _⟩ := RdS.shape (Own.rd _ RL)
 obtain ⟨op_, cp_, rfl, _⟩ := RdS.shape (Own.rd _ RP)
 clear hc1
 go_upto_region 2 with (fail)
 have hxa := ext2 w1 (.cells #[.slice o1 t.ases.length c1, .slice o2 t.links.length c2] 33) (.cells #[.slice op_ p.parts.length cp_] 26)
 have BB := al2 w1 (.cells #[.slice o1 t.ases.length c1, .slice o2 t.links.length c2] 33) (.cells #[.slice op_ p.parts.length cp_] 26)
 obtain ⟨b6, eb6⟩ : ∃ b, b = w1.heap.size := ⟨_, rfl⟩
 have ltw_b6 : w1.heap.size ≤ b6 := by rw [eb6]; exact s.x.size
 have hb_RA_b6 : w1.heap.size ≤ b6 := by rw [eb6]; exact u_RA
 have hb_RL_b6 : w1.heap.size ≤ b6 := by rw [eb6]; exact u_RL
 have hb_RP_b6 : w1.heap.size ≤ b6 := by rw [eb6]; exact u_RP
 replace RA := Own.ext RA hxa
 replace u_RA := Nat.le_trans u_RA hxa.size
 replace RL := Own.ext RL hxa
 replace u_RL := Nat.le_trans u_RL hxa.size
 replace RP := Own.ext RP hxa
 replace u_RP := Nat.le_trans u_RP hxa.size
 replace s := s.ext hxa
 have B6 := BB.1
 have B7 := BB.2
 rw [← eb6] at B6 B7
 rw [← eb6]
 clear hxa BB
 generalize ((w1.alloc (.cells #[.slice o1 t.ases.length c1, .slice o2 t.links.length c2] 33)).alloc (.cells #[.slice op_ p.parts.length cp_] 26)) = wa at B6 B7 RA RL RP u_RA u_RL u_RP s ⊢
 clear eb6
 have hps := pth_size hp4 hx5
 have cb_B6 := blk2 B6
 have cb_B7 := blk1 B7
 go_wp2_with fail
 clear cb_B6 cb_B7
 refine (s_PathSteps p _ _ (Own.rd _ RP) (by omega)).mono ?_
 rintro e w2 ⟨vS, rfl, OS, hzq⟩
 replace B6 := Ext.block hzq B6
 replace B7 := Ext.block hzq B7
 replace RA := Own.ext RA hzq
 replace u_RA := Nat.le_trans u_RA hzq.size
 replace RL := Own.ext RL hzq
 replace u_RL := Nat.le_trans u_RL hzq.size
 replace RP := Own.ext RP hzq
 replace u_RP := Nat.le_trans u_RP hzq.size
 replace s := s.ext hzq
 clear hzq
 have hxe := hx0.trans (hn1.ofCur s.x hgl)
 obtain ⟨oS, cS, rfl, _⟩ := (OwnF.rd (hf := Step.flen) OS).shape
 go_wp2_with fail
 go_ret
 exact ⟨_, _, rfl, steps_len hp4 hx5, OwnF.rd (hf := Step.flen) OS, hxe⟩
set_option maxRecDepth 100000 in
set_option maxHeartbeats 20000000 in
theorem s_DrawOppositeEndpoints (code : List Int) (cv : Value) (w : World) (hr : RdS Rep.byte w cv code) (hu : ∀ x ∈ code, U8 x) (hl : code.length ≤ 1048576) :
  Calls Tryz.prog 31 #[cv] w fun e w' => ∃ (va vb : Value) (a b : Pth), e = .returned (.tuple #[.agg #[va], .agg #[vb]]) ∧ a.parts.length ≤ 4 ∧ (∀ x ∈ a.parts, x.hops.length ≤ 5) ∧ b.parts.length ≤ 4 ∧ (∀ x ∈ b.parts, x.hops.length ≤ 5) ∧ (Own.keep Part.rep).own (rng w.heap.size w'.heap.size) w' va a.parts ∧ (Own.keep Part.rep).own (rng w.heap.size w'.heap.size) w' vb b.parts ∧ Ext w w' := by
 have hx0 := ext2 w (.cells #[.slice none 0 0] 26) (.cells #[.slice none 0 0] 26)
 have HB := al2 w (.cells #[.slice none 0 0] 26) (.cells #[.slice none 0 0] 26)
 go_enter Tryz.func31, Tryz.ntmps31
 go_wp2_with fail
 refine (s_l22One code _ _ (hr.ext hx0) hu hl).mono ?_
 rintro e w1 ⟨g, lo1, v1, v2, vp, t, p, rfl, TK, hp4, hx5, RA, RL, RP, hgl, hglo, hc1, hn1⟩
 have hgw := hc1.lt
 have s : DSt g cv code w1 w1 := ⟨hc1, Chg.refl _ _, hc1⟩
 have B2 := Ext.block hn1 HB.1
 have B3 := Ext.block hn1 HB.2
 have hgr : (w.heap.size + 1) < g := by simp at hgl; omega
 clear HB
 have g_RA : g < lo1 := hglo
 have u_RA : w1.heap.size ≤ w1.heap.size := Nat.le_refl _
 have lt_B2_RA : w.heap.size < lo1 := by omega
 have lt_B3_RA : (w.heap.size + 1) < lo1 := by omega
 have g_RL : g < lo1 := hglo
 have u_RL : w1.heap.size ≤ w1.heap.size := Nat.le_refl _
 have lt_B2_RL : w.heap.size < lo1 := by omega
 have lt_B3_RL : (w.heap.size + 1) < lo1 := by omega
 have g_RP : g < lo1 := hglo
 have u_RP : w1.heap.size ≤ w1.heap.size := Nat.le_refl _
 have lt_B2_RP : w.heap.size < lo1 := by omega
 have lt_B3_RP : (w.heap.size + 1) < lo1 := by omega
 obtain ⟨o1, c1, rfl, _⟩ := RdS.shape (Own.rd _ RA)
 obtain ⟨o2, c2, rfl, _⟩ := RdS.shape (Own.rd _ RL)
 obtain ⟨op_, cp_, rfl, _⟩ := RdS.shape (Own.rd _ RP)
 clear hc1
 have cb_B2 := blk1 B2
 have cb_B3 := blk1 B3
 go_upto_region 2 with (fail)
 clear cb_B2 cb_B3
 have hxa := ext2 w1 (.cells #[.slice o1 t.ases.length c1, .slice o2 t.links.length c2] 33) (.cells #[.slice op_ p.parts.length cp_] 26)
 have BB := al2 w1 (.cells #[.slice o1 t.ases.length c1, .slice o2 t.links.length c2] 33) (.cells #[.slice op_ p.parts.length cp_] 26)
 obtain ⟨b6, eb6⟩ : ∃ b, b = w1.heap.size := ⟨_, rfl⟩
 have ltw_b6 : w1.heap.size ≤ b6 := by rw [eb6]; exact s.x.size
 have lt_B2_b6 : w.heap.size < b6 := by rw [eb6]; exact blk_lt B2
 have lt_B3_b6 : (w.heap.size + 1) < b6 := by rw [eb6]; exact blk_lt B3
 have hb_RA_b6 : w1.heap.size ≤ b6 := by rw [eb6]; exact u_RA
 have hb_RL_b6 : w1.heap.size ≤ b6 := by rw [eb6]; exact u_RL
 have hb_RP_b6 : w1.heap.size ≤ b6 := by rw [eb6]; exact u_RP
 replace B2 := Ext.block hxa B2
 replace B3 := Ext.block hxa B3
 replace RA := Own.ext RA hxa
 replace u_RA := Nat.le_trans u_RA hxa.size
 replace RL := Own.ext RL hxa
 replace u_RL := Nat.le_trans u_RL hxa.size
 replace RP := Own.ext RP hxa
 replace u_RP := Nat.le_trans u_RP hxa.size
 replace s := s.ext hxa
 have B6 := BB.1
 have B7 := BB.2
 rw [← eb6] at B6 B7
 rw [← eb6]
 clear hxa BB
 generalize ((w1.alloc (.cells #[.slice o1 t.ases.length c1, .slice o2 t.links.length c2] 33)).alloc (.cells #[.slice op_ p.parts.length cp_] 26)) = wa at B2 B3 B6 B7 RA RL RP u_RA u_RL u_RP s ⊢
 clear eb6
 have hps := pth_size hp4 hx5
 have cb_B2 := blk1 B2
 have cb_B3 := blk1 B3
 have cb_B6 := blk2 B6
 have cb_B7 := blk1 B7
 go_wp2_with fail
 clear cb_B2 cb_B3 cb_B6 cb_B7
 refine (s_l1Once g (2) _ _ _ s.c).mono ?_
 rintro e w2 ⟨b1, rfl, hcq, hzq⟩
 replace B2 := hzq.blkS B2 (by unfold at1; omega)
 replace B3 := hzq.blkS B3 (by unfold at1; omega)
 replace B6 := hzq.blkS B6 (by unfold at1; omega)
 replace B7 := hzq.blkS B7 (by unfold at1; omega)
 replace RA := Own.at1g RA hzq (.inl g_RA)
 replace u_RA := Nat.le_trans u_RA hzq.size
 replace RL := Own.at1g RL hzq (.inl g_RL)
 replace u_RL := Nat.le_trans u_RL hzq.size
 replace RP := Own.at1g RP hzq (.inl g_RP)
 replace u_RP := Nat.le_trans u_RP hzq.size
 replace s := s.draw hcq hzq
 clear hzq hcq
 cases b1
 case false =>
  have cb_B2 := blk1 B2
  have cb_B3 := blk1 B3
  have cb_B6 := blk2 B6
  have cb_B7 := blk1 B7
  go_wp2_with fail
  clear cb_B2 cb_B3 cb_B6 cb_B7
  have hbs : w1.heap.size ≤ w2.heap.size := s.x.size
  have ltq_B2 : w.heap.size < w2.heap.size := blk_lt B2
  have ltq_B3 : (w.heap.size + 1) < w2.heap.size := blk_lt B3
  have ltq_B6 : b6 < w2.heap.size := blk_lt B6
  have ltq_B7 : (b6 + 1) < w2.heap.size := blk_lt B7
  refine (s_l22Any g _ _ _ s.c).mono ?_
  rintro e w3 ⟨v1n, v2n, vpn, tn, pn, rfl, TKn, hp4n, hx5n, RAn, RLn, RPn, hcq, hzq⟩
  replace B2 := hzq.blkS B2 (by unfold at1; omega)
  replace B3 := hzq.blkS B3 (by unfold at1; omega)
  replace B6 := hzq.blkS B6 (by unfold at1; omega)
  replace B7 := hzq.blkS B7 (by unfold at1; omega)
  replace RA := Own.at1g RA hzq (.inl g_RA)
  replace u_RA := Nat.le_trans u_RA hzq.size
  replace RL := Own.at1g RL hzq (.inl g_RL)
  replace u_RL := Nat.le_trans u_RL hzq.size
  replace RP := Own.at1g RP hzq (.inl g_RP)
  replace u_RP := Nat.le_trans u_RP hzq.size
  replace s := s.draw hcq hzq
  obtain ⟨o1n, c1n, rfl, _⟩ := RdS.shape (Own.rd _ RAn)
  obtain ⟨o2n, c2n, rfl, _⟩ := RdS.shape (Own.rd _ RLn)
  obtain ⟨opn, cpn, rfl, _⟩ := RdS.shape (Own.rd _ RPn)
  have g_RAn : g < w2.heap.size := by omega
  have u_RAn : w3.heap.size ≤ w3.heap.size := by omega
  have lt_B2_RAn : w.heap.size < w2.heap.size := by omega
  have lt_B3_RAn : (w.heap.size + 1) < w2.heap.size := by omega
  have lt_B6_RAn : b6 < w2.heap.size := by omega
  have lt_B7_RAn : (b6 + 1) < w2.heap.size := by omega
  have g_RLn : g < w2.heap.size := by omega
  have u_RLn : w3.heap.size ≤ w3.heap.size := by omega
  have lt_B2_RLn : w.heap.size < w2.heap.size := by omega
  have lt_B3_RLn : (w.heap.size + 1) < w2.heap.size := by omega
  have lt_B6_RLn : b6 < w2.heap.size := by omega
  have lt_B7_RLn : (b6 + 1) < w2.heap.size := by omega
  have g_RPn : g < w2.heap.size := by omega
  have u_RPn : w3.heap.size ≤ w3.heap.size := by omega
  have lt_B2_RPn : w.heap.size < w2.heap.size := by omega
  have lt_B3_RPn : (w.heap.size + 1) < w2.heap.size := by omega
  have lt_B6_RPn : b6 < w2.heap.size := by omega
  have lt_B7_RPn : (b6 + 1) < w2.heap.size := by omega
  clear hzq hcq hbs ltq_B2 ltq_B3 ltq_B6 ltq_B7
  have cb_B2 := blk1 B2
  have cb_B3 := blk1 B3
  have cb_B6 := blk2 B6
  have cb_B7 := blk1 B7
  go_upto_region 5 with (fail)
  clear cb_B2 cb_B3 cb_B6 cb_B7
  have hxa := ext2 w3 (.cells #[.slice o1n tn.ases.length c1n, .slice o2n tn.links.length c2n] 33) (.cells #[.slice opn pn.parts.length cpn] 26)
  have BB := al2 w3 (.cells #[.slice o1n tn.ases.length c1n, .slice o2n tn.links.length c2n] 33) (.cells #[.slice opn pn.parts.length cpn] 26)
  obtain ⟨b8, eb8⟩ : ∃ b, b = w3.heap.size := ⟨_, rfl⟩
  have ltw_b8 : w1.heap.size ≤ b8 := by rw [eb8]; exact s.x.size
  have lt_B2_b8 : w.heap.size < b8 := by rw [eb8]; exact blk_lt B2
  have lt_B3_b8 : (w.heap.size + 1) < b8 := by rw [eb8]; exact blk_lt B3
  have lt_B6_b8 : b6 < b8 := by rw [eb8]; exact blk_lt B6
  have lt_B7_b8 : (b6 + 1) < b8 := by rw [eb8]; exact blk_lt B7
  have hb_RA_b8 : w1.heap.size ≤ b8 := by rw [eb8]; exact u_RA
  have hb_RL_b8 : w1.heap.size ≤ b8 := by rw [eb8]; exact u_RL
  have hb_RP_b8 : w1.heap.size ≤ b8 := by rw [eb8]; exact u_RP
  have hb_RAn_b8 : w3.heap.size ≤ b8 := by rw [eb8]; exact u_RAn
  have hb_RLn_b8 : w3.heap.size ≤ b8 := by rw [eb8]; exact u_RLn
  have hb_RPn_b8 : w3.heap.size ≤ b8 := by rw [eb8]; exact u_RPn
  replace B2 := Ext.block hxa B2
  replace B3 := Ext.block hxa B3
  replace B6 := Ext.block hxa B6
  replace B7 := Ext.block hxa B7
  replace RA := Own.ext RA hxa
  replace u_RA := Nat.le_trans u_RA hxa.size
  replace RL := Own.ext RL hxa
  replace u_RL := Nat.le_trans u_RL hxa.size
  replace RP := Own.ext RP hxa
  replace u_RP := Nat.le_trans u_RP hxa.size
  replace RAn := Own.ext RAn hxa
  replace u_RAn := Nat.le_trans u_RAn hxa.size
  replace RLn := Own.ext RLn hxa
  replace u_RLn := Nat.le_trans u_RLn hxa.size
  replace RPn := Own.ext RPn hxa
  replace u_RPn := Nat.le_trans u_RPn hxa.size
  replace s := s.ext hxa
  have B8 := BB.1
  have B9 := BB.2
  rw [← eb8] at B8 B9
  rw [← eb8]
  clear hxa BB
  generalize ((w3.alloc (.cells #[.slice o1n tn.ases.length c1n, .slice o2n tn.links.length c2n] 33)).alloc (.cells #[.slice opn pn.parts.length cpn] 26)) = wb at B2 B3 B6 B7 B8 B9 RA RL RP RAn RLn RPn u_RA u_RL u_RP u_RAn u_RLn u_RPn s ⊢
  clear eb8
  refine wp_region_fin (at1 w.heap.size) [([0, 1], 2)] [] [3] (by kernel_rfl) (by kernel_rfl) (by kernel_rfl) ?_
  have ch_B7 := blk1 B7
  have q0 := ChgSW.cell (S := at1 w.heap.size) (ch_B7) (by first | (unfold at1; simp only; omega) | (simp only; omega))
  clear ch_B7
  have ch_B9 := blk1 B9
  have q1 := ChgSW.cell (S := at1 w.heap.size) (ch_B9) (by first | (unfold at1; simp only; omega) | (simp only; omega))
  clear ch_B9
  simp only [wpBlocksX, pickOps, PK]
  have hch : Chg (at1 w.heap.size) wb wb.drew := Chg.ofExt (Ext.refl wb).drew
  replace B2 := Ext.block ((Ext.refl wb).drew) B2
  replace B3 := Ext.block ((Ext.refl wb).drew) B3
  replace B6 := Ext.block ((Ext.refl wb).drew) B6
  replace B7 := Ext.block ((Ext.refl wb).drew) B7
  replace B8 := Ext.block ((Ext.refl wb).drew) B8
  replace B9 := Ext.block ((Ext.refl wb).drew) B9
  replace RA := Own.ext RA ((Ext.refl wb).drew)
  replace u_RA := Nat.le_trans u_RA ((Ext.refl wb).drew).size
  replace RL := Own.ext RL ((Ext.refl wb).drew)
  replace u_RL := Nat.le_trans u_RL ((Ext.refl wb).drew).size
  replace RP := Own.ext RP ((Ext.refl wb).drew)
  replace u_RP := Nat.le_trans u_RP ((Ext.refl wb).drew).size
  replace RAn := Own.ext RAn ((Ext.refl wb).drew)
  replace u_RAn := Nat.le_trans u_RAn ((Ext.refl wb).drew).size
  replace RLn := Own.ext RLn ((Ext.refl wb).drew)
  replace u_RLn := Nat.le_trans u_RLn ((Ext.refl wb).drew).size
  replace RPn := Own.ext RPn ((Ext.refl wb).drew)
  replace u_RPn := Nat.le_trans u_RPn ((Ext.refl wb).drew).size
  replace s := s.ext ((Ext.refl wb).drew)
  obtain ⟨wt, hnw⟩ : ∃ wn, wn = wb.drew := ⟨_, rfl⟩
  rw [← hnw] at B2 B3 B6 B7 B8 B9 RA RL RP RAn RLn RPn u_RA u_RL u_RP u_RAn u_RLn u_RPn s hch ⊢
  clear hnw
  repeat (first | go_big_quiet_step (fail) | quiet_step (fail))
  refine wpQuiet_nil ?_
  have hxe := hx0.trans (hn1.ofCur s.x hgl)
  obtain ⟨wpa, hwa, hba, hca⟩ := set1 B2 (.slice op_ p.parts.length cp_)
  have HWa := Lib.hid hwa
  clear hwa
  have ff0 := fr_of B2 0
  have cb := blk1 B2
  go_wp2_with fail
  rw [← HWa.out]
  clear HWa cb ff0
  replace hch := hch.trans (hca.mono (fun b h => h))
  refine ⟨⟨⟨_, hch⟩, rfl⟩, ?_⟩
  replace RA := Own.at1g RA hca (by omega)
  replace u_RA := Nat.le_trans u_RA hca.size
  replace RL := Own.at1g RL hca (by omega)
  replace u_RL := Nat.le_trans u_RL hca.size
  replace RP := Own.at1g RP hca (by omega)
  replace u_RP := Nat.le_trans u_RP hca.size
  replace RAn := Own.at1g RAn hca (by omega)
  replace u_RAn := Nat.le_trans u_RAn hca.size
  replace RLn := Own.at1g RLn hca (by omega)
  replace u_RLn := Nat.le_trans u_RLn hca.size
  replace RPn := Own.at1g RPn hca (by omega)
  replace u_RPn := Nat.le_trans u_RPn hca.size
  replace B3 := hca.blkS B3 (by unfold at1; omega)
  replace B6 := hca.blkS B6 (by unfold at1; omega)
  replace B7 := hca.blkS B7 (by unfold at1; omega)
  replace B8 := hca.blkS B8 (by unfold at1; omega)
  replace B9 := hca.blkS B9 (by unfold at1; omega)
  replace B2 := hba
  clear hba
  replace hxe := hxe.chg hca (fun i hi => by have h1 : i = w.heap.size := hi; omega)
  try clear hca
  repeat (first | go_big_quiet_step (fail) | quiet_step (fail))
  refine wpQuiet_nil ?_
  obtain ⟨wpb, hwb, hbb, hcb⟩ := set1 B3 (.slice opn pn.parts.length cpn)
  have HWb := Lib.hid hwb
  clear hwb
  have ff0 := fr_of B3 0
  have cb := blk1 B3
  go_wp2_with fail
  rw [← HWb.out]
  clear HWb cb ff0
  replace RA := Own.at1g RA hcb (by omega)
  replace u_RA := Nat.le_trans u_RA hcb.size
  replace RL := Own.at1g RL hcb (by omega)
  replace u_RL := Nat.le_trans u_RL hcb.size
  replace RP := Own.at1g RP hcb (by omega)
  replace u_RP := Nat.le_trans u_RP hcb.size
  replace RAn := Own.at1g RAn hcb (by omega)
  replace u_RAn := Nat.le_trans u_RAn hcb.size
  replace RLn := Own.at1g RLn hcb (by omega)
  replace u_RLn := Nat.le_trans u_RLn hcb.size
  replace RPn := Own.at1g RPn hcb (by omega)
  replace u_RPn := Nat.le_trans u_RPn hcb.size
  replace B2 := hcb.blkS B2 (by unfold at1; omega)
  replace B6 := hcb.blkS B6 (by unfold at1; omega)
  replace B7 := hcb.blkS B7 (by unfold at1; omega)
  replace B8 := hcb.blkS B8 (by unfold at1; omega)
  replace B9 := hcb.blkS B9 (by unfold at1; omega)
  replace B3 := hbb
  clear hbb
  replace hxe := hxe.chg hcb (fun i hi => by have h1 : i = (w.heap.size + 1) := hi; omega)
  try clear hcb
  refine NoPanic.normal ?_
  clear hch q0 q1
  have cr_B2 := blk1 B2
  have cr_B3 := blk1 B3
  have cr_B6 := blk2 B6
  have cr_B7 := blk1 B7
  have cr_B8 := blk2 B8
  have cr_B9 := blk1 B9
  have hwb := (hx0.trans hn1).size
  go_wp2_with fail
  refine bodyPost_ret (v := .tuple #[.agg #[.slice op_ p.parts.length cp_], .agg #[.slice opn pn.parts.length cpn]]) (by simp [results, Tryz.results31, go_sem, cr_B2, cr_B3]) rfl ?_
  exact ⟨_, _, p, pn, rfl, hp4, hx5, hp4n, hx5n, (Own.upTo (Own.lo RP (by omega)) (Nat.le_refl _)), (Own.upTo (Own.lo RPn (by omega)) (Nat.le_refl _)), hxe⟩
 case true =>
  have cb_B2 := blk1 B2
  have cb_B3 := blk1 B3
  have cb_B6 := blk2 B6
  have cb_B7 := blk1 B7
  go_upto_region 3 with (fail)
  clear cb_B2 cb_B3 cb_B6 cb_B7
  refine wp_region_fin (at1 w.heap.size) [([0, 1], 2), ([], 3)] [] [4] (by kernel_rfl) (by kernel_rfl) (by kernel_rfl) ?_
  have ch_B7 := blk1 B7
  have q0 := ChgSW.cell (S := at1 w.heap.size) (ch_B7) (by first | (unfold at1; simp only; omega) | (simp only; omega))
  clear ch_B7
  simp only [wpBlocksX, pickOps, PK]
  have hch : Chg (at1 w.heap.size) w2 w2.drew := Chg.ofExt (Ext.refl w2).drew
  replace B2 := Ext.block ((Ext.refl w2).drew) B2
  replace B3 := Ext.block ((Ext.refl w2).drew) B3
  replace B6 := Ext.block ((Ext.refl w2).drew) B6
  replace B7 := Ext.block ((Ext.refl w2).drew) B7
  replace RA := Own.ext RA ((Ext.refl w2).drew)
  replace u_RA := Nat.le_trans u_RA ((Ext.refl w2).drew).size
  replace RL := Own.ext RL ((Ext.refl w2).drew)
  replace u_RL := Nat.le_trans u_RL ((Ext.refl w2).drew).size
  replace RP := Own.ext RP ((Ext.refl w2).drew)
  replace u_RP := Nat.le_trans u_RP ((Ext.refl w2).drew).size
  replace s := s.ext ((Ext.refl w2).drew)
  obtain ⟨wt, hnw⟩ : ∃ wn, wn = w2.drew := ⟨_, rfl⟩
  rw [← hnw] at B2 B3 B6 B7 RA RL RP u_RA u_RL u_RP s hch ⊢
  clear hnw
  repeat (first | go_big_quiet_step (fail) | quiet_step (fail))
  refine wpQuiet_nil ?_
  go_wp2_with fail
  have hbs : w1.heap.size ≤ wt.heap.size := s.x.size
  have ltq_B2 : w.heap.size < wt.heap.size := blk_lt B2
  have ltq_B3 : (w.heap.size + 1) < wt.heap.size := blk_lt B3
  have ltq_B6 : b6 < wt.heap.size := blk_lt B6
  have ltq_B7 : (b6 + 1) < wt.heap.size := blk_lt B7
  refine (s_ReversePath p _ _ (Own.rd _ RP) (by omega)).mono ?_
  rintro e w3 ⟨uc, rfl, OC, hzq⟩
  replace B2 := Ext.block hzq B2
  replace B3 := Ext.block hzq B3
  replace B6 := Ext.block hzq B6
  replace B7 := Ext.block hzq B7
  replace RA := Own.ext RA hzq
  replace u_RA := Nat.le_trans u_RA hzq.size
  replace RL := Own.ext RL hzq
  replace u_RL := Nat.le_trans u_RL hzq.size
  replace RP := Own.ext RP hzq
  replace u_RP := Nat.le_trans u_RP hzq.size
  replace s := s.ext hzq
  replace hch := hch.trans ((Chg.ofExt hzq))
  have RC := Own.toKeep OC
  clear OC
  obtain ⟨pr, hpr⟩ : ∃ q, q = revPath p := ⟨_, rfl⟩
  rw [← hpr] at RC
  have HPR := Lib.hid hpr
  clear hpr
  obtain ⟨ocp, ccp, rfl, _⟩ := RdS.shape (Own.rd _ RC)
  have g_RC : g < wt.heap.size := by omega
  have u_RC : w3.heap.size ≤ w3.heap.size := by omega
  have lt_B2_RC : w.heap.size < wt.heap.size := by omega
  have lt_B3_RC : (w.heap.size + 1) < wt.heap.size := by omega
  have lt_B6_RC : b6 < wt.heap.size := by omega
  have lt_B7_RC : (b6 + 1) < wt.heap.size := by omega
  clear hzq hbs ltq_B2 ltq_B3 ltq_B6 ltq_B7
  go_wp2_with fail
  refine ⟨⟨⟨_, hch⟩, rfl⟩, ?_⟩
  repeat (first | go_big_quiet_step (fail) | quiet_step (fail))
  refine wpQuiet_nil ?_
  have hxe := hx0.trans (hn1.ofCur s.x hgl)
  obtain ⟨wpa, hwa, hba, hca⟩ := set1 B2 (.slice op_ p.parts.length cp_)
  have HWa := Lib.hid hwa
  clear hwa
  have ff0 := fr_of B2 0
  have cb := blk1 B2
  go_wp2_with fail
  rw [← HWa.out]
  clear HWa cb ff0
  replace hch := hch.trans (hca.mono (fun b h => h))
  refine ⟨⟨⟨_, hch⟩, rfl⟩, ?_⟩
  replace RA := Own.at1g RA hca (by omega)
  replace u_RA := Nat.le_trans u_RA hca.size
  replace RL := Own.at1g RL hca (by omega)
  replace u_RL := Nat.le_trans u_RL hca.size
  replace RP := Own.at1g RP hca (by omega)
  replace u_RP := Nat.le_trans u_RP hca.size
  replace RC := Own.at1g RC hca (by omega)
  replace u_RC := Nat.le_trans u_RC hca.size
  replace B3 := hca.blkS B3 (by unfold at1; omega)
  replace B6 := hca.blkS B6 (by unfold at1; omega)
  replace B7 := hca.blkS B7 (by unfold at1; omega)
  replace B2 := hba
  clear hba
  replace hxe := hxe.chg hca (fun i hi => by have h1 : i = w.heap.size := hi; omega)
  try clear hca
  repeat (first | go_big_quiet_step (fail) | quiet_step (fail))
  refine wpQuiet_nil ?_
  obtain ⟨wpb, hwb, hbb, hcb⟩ := set1 B3 (.slice ocp pr.parts.length ccp)
  have HWb := Lib.hid hwb
  clear hwb
  have ff0 := fr_of B3 0
  have cb := blk1 B3
  go_wp2_with fail
  rw [← HWb.out]
  clear HWb cb ff0
  replace RA := Own.at1g RA hcb (by omega)
  replace u_RA := Nat.le_trans u_RA hcb.size
  replace RL := Own.at1g RL hcb (by omega)
  replace u_RL := Nat.le_trans u_RL hcb.size
  replace RP := Own.at1g RP hcb (by omega)
  replace u_RP := Nat.le_trans u_RP hcb.size
  replace RC := Own.at1g RC hcb (by omega)
  replace u_RC := Nat.le_trans u_RC hcb.size
  replace B2 := hcb.blkS B2 (by unfold at1; omega)
  replace B6 := hcb.blkS B6 (by unfold at1; omega)
  replace B7 := hcb.blkS B7 (by unfold at1; omega)
  replace B3 := hbb
  clear hbb
  replace hxe := hxe.chg hcb (fun i hi => by have h1 : i = (w.heap.size + 1) := hi; omega)
  try clear hcb
  refine NoPanic.normal ?_
  clear hch q0
  have cr_B2 := blk1 B2
  have cr_B3 := blk1 B3
  have cr_B6 := blk2 B6
  have cr_B7 := blk1 B7
  have hwb := (hx0.trans hn1).size
  go_wp2_with fail
  refine bodyPost_ret (v := .tuple #[.agg #[.slice op_ p.parts.length cp_], .agg #[.slice ocp pr.parts.length ccp]]) (by simp [results, Tryz.results31, go_sem, cr_B2, cr_B3]) rfl ?_
  exact ⟨_, _, p, pr, rfl, hp4, hx5, by rw [HPR.out]; exact rev_len4 hp4, by rw [HPR.out]; exact rev_len5 hx5, (Own.upTo (Own.lo RP (by omega)) (Nat.le_refl _)), (Own.upTo (Own.lo RC (by omega)) (Nat.le_refl _)), hxe⟩
end
end Go.Proofs.YtikbeiafobnblaaGreat
