/- What these laws need: FnNotes: The draws of the code: a path with its topology. -/
import Derived.Test.YtcpfmhgfaliemaaGreatKM24
namespace Go.Proofs.YtcpfmhgfaliemaaGreat
section
open Go.ChangeShapes Go.WideShapes Go.ChangeAt Go.RowKit Go.Deep
theorem Cur.ofCode {S : Nat → Prop} {g : Nat} {v : Value} {code : List Int} {w w1 w' : World} (hr : RdS Rep.byte w v code) (h : Cur g v code w1) (c : Chg S w1 w') (hn : ¬ S g) (hx : Ext w w') (hg : w.heap.size ≤ g) : Cur g v code w' := by
 obtain ⟨⟨i, hh, hb, r⟩, hs, hu⟩ := h; exact ⟨⟨i, hh, c.blkS hb hn, r⟩, fun w2 k => hr.ext (hx.ofCur k hg), hu⟩
theorem hopsN_len : ∀ (l : List Part) (m : Nat), (∀ x ∈ l, x.hops.length ≤ m) → hopsN l ≤ l.length * m
 | [], m, _ => by simp [hopsN]
 | a :: l, m, h => by
  have h1 := hopsN_len l m (fun x hx => h x (List.mem_cons_of_mem _ hx)); have h2 := h a (by simp); simp only [hopsN, Part.size, List.map_cons, List.sum_cons, List.length_cons] at h1 ⊢
  rw [Nat.succ_mul]; omega
theorem rev_len4 {p : Pth} (h : p.parts.length ≤ 4) : (revPath p).parts.length ≤ 4 := by simpa [revPath, revParts] using h
theorem rev_len5 {p : Pth} (h : ∀ x ∈ p.parts, x.hops.length ≤ 5) : ∀ x ∈ (revPath p).parts, x.hops.length ≤ 5 := by
 intro x hx; simp only [revPath, revParts, List.mem_reverse, List.mem_map] at hx; obtain ⟨y, hy, rfl⟩ := hx
 simpa [revPart] using h y hy
theorem pth_size {p : Pth} (h1 : p.parts.length ≤ 4) (h2 : ∀ x ∈ p.parts, x.hops.length ≤ 5) : p.size ≤ 24 := by
 have h3 := hopsN_len p.parts 5 h2; unfold Pth.size; omega
theorem steps_len {p : Pth} (h1 : p.parts.length ≤ 4) (h2 : ∀ x ∈ p.parts, x.hops.length ≤ 5) : (pathSteps p.parts).length ≤ 20 := by
 have h3 := hopsN_len p.parts 5 h2; have h4 := pathSteps_len p.parts; omega
set_option maxRecDepth 100000 in
set_option maxHeartbeats 20000000 in
theorem s_l22One (code : List Int) (cv : Value) (w : World) (hr : RdS Rep.byte w cv code) (hu : ∀ x ∈ code, U8 x) (hl : code.length ≤ 1048576) :
  Calls Tryz.prog 84 #[cv] w fun e w' => ∃ (g lo1 : Nat) (v1 v2 vp : Value) (t : Topo) (p : Pth), e = .returned (.tuple #[.pointer (some ⟨g, 0, none⟩), .agg #[v1, v2], .agg #[vp]]) ∧ TopoOk t ∧ p.parts.length ≤ 4 ∧ (∀ x ∈ p.parts, x.hops.length ≤ 5) ∧ (Own.keep ASd.rep).own (rng lo1 w'.heap.size) w' v1 t.ases ∧ (Own.keep Lnk.rep).own (rng lo1 w'.heap.size) w' v2 t.links ∧ (Own.keep Part.rep).own (rng lo1 w'.heap.size) w' vp p.parts ∧ w.heap.size ≤ g ∧ g < lo1 ∧ Cur g cv code w' ∧ Ext w w' := by
 have hx0 := ext2 w (.cells #[.slice none 0 0, .slice none 0 0] 56) (.cells #[.slice none 0 0] 35); have HB := al2 w (.cells #[.slice none 0 0, .slice none 0 0] 56) (.cells #[.slice none 0 0] 35)
 go_enter Tryz.func84, Tryz.ntmps84
 go_wp2_with fail
 refine (s_l1New code _ _ (hr.ext hx0) hu hl).mono ?_; rintro e w1 ⟨g, rfl, hgl, hc1, hn1⟩; have hgw := hc1.lt
 have s : DSt g cv code w1 w1 := ⟨hc1, Chg.refl _ _, hc1⟩
 have B3 := Ext.block hn1 HB.1; have B4 := Ext.block hn1 HB.2; have hgr : (w.heap.size + 1) < g := by simp at hgl; omega
 clear HB; clear hc1; have cb_B3 := blk2 B3; have cb_B4 := blk1 B4
 go_wp2_with fail
 clear cb_B3 cb_B4; have hbs : w1.heap.size ≤ w1.heap.size := s.x.size; have ltq_B3 : w.heap.size < w1.heap.size := blk_lt B3; have ltq_B4 : (w.heap.size + 1) < w1.heap.size := blk_lt B4; refine (s_l22Any g _ _ _ s.c).mono ?_; rintro e w2 ⟨v1, v2, vp, t, p, rfl, TK, hp4, hx5, RA, RL, RP, hcq, hzq⟩; replace B3 := hzq.blkS B3 (by unfold at1; omega); replace B4 := hzq.blkS B4 (by unfold at1; omega); replace s := s.draw hcq hzq; obtain ⟨o1, c1, rfl, _⟩ := RdS.shape (Own.rd _ RA); obtain ⟨o2, c2, rfl, _⟩ := RdS.shape (Own.rd _ RL); obtain ⟨op_, cp_, rfl, _⟩ := RdS.shape (Own.rd _ RP); have g_RA : g < w1.heap.size := by omega
 have u_RA : w2.heap.size ≤ w2.heap.size := by omega
 have lt_B3_RA : w.heap.size < w1.heap.size := by omega
 have lt_B4_RA : (w.heap.size + 1) < w1.heap.size := by omega
 have g_RL : g < w1.heap.size := by omega
 have u_RL : w2.heap.size ≤ w2.heap.size := by omega
 have lt_B3_RL : w.heap.size < w1.heap.size := by omega
 have lt_B4_RL : (w.heap.size + 1) < w1.heap.size := by omega
 have g_RP : g < w1.heap.size := by omega
 have u_RP : w2.heap.size ≤ w2.heap.size := by omega
 have lt_B3_RP : w.heap.size < w1.heap.size := by omega
 have lt_B4_RP : (w.heap.size + 1) < w1.heap.size := by omega
 clear hzq hcq hbs ltq_B3 ltq_B4; have cb_B3 := blk2 B3; have cb_B4 := blk1 B4
 go_upto_region 3 with (fail)
 clear cb_B3 cb_B4; have hxa := ext2 w2 (.cells #[.slice o1 t.ases.length c1, .slice o2 t.links.length c2] 56) (.cells #[.slice op_ p.parts.length cp_] 35); have BB := al2 w2 (.cells #[.slice o1 t.ases.length c1, .slice o2 t.links.length c2] 56) (.cells #[.slice op_ p.parts.length cp_] 35)
 obtain ⟨b6, eb6⟩ : ∃ b, b = w2.heap.size := ⟨_, rfl⟩
 have ltw_b6 : w1.heap.size ≤ b6 := by rw [eb6]; exact s.x.size
 have lt_B3_b6 : w.heap.size < b6 := by rw [eb6]; exact blk_lt B3
 have lt_B4_b6 : (w.heap.size + 1) < b6 := by rw [eb6]; exact blk_lt B4
 have hb_RA_b6 : w2.heap.size ≤ b6 := by rw [eb6]; exact u_RA
 have hb_RL_b6 : w2.heap.size ≤ b6 := by rw [eb6]; exact u_RL
 have hb_RP_b6 : w2.heap.size ≤ b6 := by rw [eb6]; exact u_RP
 replace B3 := Ext.block hxa B3; replace B4 := Ext.block hxa B4; replace RA := Own.ext RA hxa; replace u_RA := Nat.le_trans u_RA hxa.size; replace RL := Own.ext RL hxa; replace u_RL := Nat.le_trans u_RL hxa.size; replace RP := Own.ext RP hxa; replace u_RP := Nat.le_trans u_RP hxa.size; replace s := s.ext hxa; have B6 := BB.1; have B7 := BB.2; rw [← eb6] at B6 B7; rw [← eb6]; clear hxa BB; generalize ((w2.alloc (.cells #[.slice o1 t.ases.length c1, .slice o2 t.links.length c2] 56)).alloc (.cells #[.slice op_ p.parts.length cp_] 35)) = wa at B3 B4 B6 B7 RA RL RP u_RA u_RL u_RP s ⊢
 clear eb6; refine wp_region_fin (at1 w.heap.size) [([0, 1, 2, 3], 4)] [] [5] (by kernel_rfl) (by kernel_rfl) (by kernel_rfl) ?_; have ch_B6 := blk2 B6; have q0 := ChgSW.cell (S := at1 w.heap.size) (ch_B6.1) (by first | (unfold at1; simp only; omega) | (simp only; omega)); have q1 := ChgSW.cell (S := at1 w.heap.size) (ch_B6.2) (by first | (unfold at1; simp only; omega) | (simp only; omega)); clear ch_B6; have ch_B7 := blk1 B7; have q2 := ChgSW.cell (S := at1 w.heap.size) (ch_B7) (by first | (unfold at1; simp only; omega) | (simp only; omega)); clear ch_B7; simp only [wpBlocksX, pickOps, PK]; have hch : Chg (at1 w.heap.size) wa wa.drew := Chg.ofExt (Ext.refl wa).drew; replace B3 := Ext.block ((Ext.refl wa).drew) B3; replace B4 := Ext.block ((Ext.refl wa).drew) B4; replace B6 := Ext.block ((Ext.refl wa).drew) B6; replace B7 := Ext.block ((Ext.refl wa).drew) B7; replace RA := Own.ext RA ((Ext.refl wa).drew); replace u_RA := Nat.le_trans u_RA ((Ext.refl wa).drew).size; replace RL := Own.ext RL ((Ext.refl wa).drew); replace u_RL := Nat.le_trans u_RL ((Ext.refl wa).drew).size; replace RP := Own.ext RP ((Ext.refl wa).drew); replace u_RP := Nat.le_trans u_RP ((Ext.refl wa).drew).size; replace s := s.ext ((Ext.refl wa).drew)
 obtain ⟨wt, hnw⟩ : ∃ wn, wn = wa.drew := ⟨_, rfl⟩
 rw [← hnw] at B3 B4 B6 B7 RA RL RP u_RA u_RL u_RP s hch ⊢
 clear hnw
 repeat (first | go_big_quiet_step (fail) | quiet_step (fail))
 refine wpQuiet_nil ?_; have hcu := s.c; have hxe := hx0.trans (hn1.ofCur s.x hgl); obtain ⟨wpa, hwa, hba, hca⟩ := two_set B3 (.slice o1 t.ases.length c1) (.slice o2 t.links.length c2); have HWa := Lib.hid hwa; clear hwa; have ff0 := fr_of B3 0; have ff1 := fr_of B3 1; have cb := blk2 B3
 go_wp2_with fail
 rw [← HWa.out]; clear HWa cb ff0 ff1; replace hch := hch.trans (hca.mono (fun b h => h)); refine ⟨⟨⟨_, hch⟩, rfl⟩, ?_⟩; replace RA := Own.at1g RA hca (by omega); replace u_RA := Nat.le_trans u_RA hca.size; replace RL := Own.at1g RL hca (by omega); replace u_RL := Nat.le_trans u_RL hca.size; replace RP := Own.at1g RP hca (by omega); replace u_RP := Nat.le_trans u_RP hca.size; replace B4 := hca.blkS B4 (by unfold at1; omega); replace B6 := hca.blkS B6 (by unfold at1; omega); replace B7 := hca.blkS B7 (by unfold at1; omega); replace B3 := hba; clear hba; replace hxe := hxe.chg hca (fun i hi => by have h1 : i = w.heap.size := hi; omega); replace hcu := Cur.ofCode hr hcu hca (fun h => by have h1 : g = w.heap.size := h; omega) hxe (by omega)
 try clear hca
 repeat (first | go_big_quiet_step (fail) | quiet_step (fail))
 refine wpQuiet_nil ?_; obtain ⟨wpb, hwb, hbb, hcb⟩ := set1 B4 (.slice op_ p.parts.length cp_); have HWb := Lib.hid hwb; clear hwb; have ff0 := fr_of B4 0; have cb := blk1 B4
 go_wp2_with fail
 rw [← HWb.out]; clear HWb cb ff0; replace RA := Own.at1g RA hcb (by omega); replace u_RA := Nat.le_trans u_RA hcb.size; replace RL := Own.at1g RL hcb (by omega); replace u_RL := Nat.le_trans u_RL hcb.size; replace RP := Own.at1g RP hcb (by omega); replace u_RP := Nat.le_trans u_RP hcb.size; replace B3 := hcb.blkS B3 (by unfold at1; omega); replace B6 := hcb.blkS B6 (by unfold at1; omega); replace B7 := hcb.blkS B7 (by unfold at1; omega); replace B4 := hbb; clear hbb; replace hxe := hxe.chg hcb (fun i hi => by have h1 : i = (w.heap.size + 1) := hi; omega); replace hcu := Cur.ofCode hr hcu hcb (fun h => by have h1 : g = (w.heap.size + 1) := h; omega) hxe (by omega)
 try clear hcb
 refine NoPanic.normal ?_; clear hch q0 q1 q2; have cr_B3 := blk2 B3; have cr_B4 := blk1 B4; have cr_B6 := blk2 B6; have cr_B7 := blk1 B7; have hwb := (hx0.trans hn1).size
 go_wp2_with fail
 refine bodyPost_ret (v := .tuple #[.pointer (some ⟨g, 0, none⟩), .agg #[.slice o1 t.ases.length c1, .slice o2 t.links.length c2], .agg #[.slice op_ p.parts.length cp_]]) (by simp [results, Tryz.results84, go_sem, cr_B3, cr_B4]) rfl ?_; exact ⟨g, _, _, _, _, t, p, rfl, TK, hp4, hx5, (Own.upTo RA (Nat.le_refl _)), (Own.upTo RL (Nat.le_refl _)), (Own.upTo RP (Nat.le_refl _)), (by omega), g_RA, hcu, hxe⟩
end
end Go.Proofs.YtcpfmhgfaliemaaGreat
