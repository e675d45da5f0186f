/- The draws of the code: what is asked of revocations. No condition. -/
import Derived.Test.YtcpfmhgfaliemaaGreatKMxW31d
import Derived.Test.YtcpfmhgfaliemaaGreatKMxW23d
import Derived.Test.YtcpfmhgfaliemaaGreatKM18
import Derived.Test.YtcpfmhgfaliemaaGreatKM25
namespace Go.Proofs.YtcpfmhgfaliemaaGreat
open Go.ChangeShapes Go.WideShapes Go.ChangeAt Go.RowKit Go.Deep

theorem pth_part {w : World} {o : Option Addr} {c : Nat} {l : List Pth} (h : RdS Pth.rep w (.slice o l.length c) l) (hl : 0 < l.length) : ∃ b off, o = some ⟨b, off, none⟩ := by
 obtain ⟨b, off, _, _, h1, _⟩ := Pth.at h 0 hl
 exact ⟨b, off, h1⟩

set_option maxRecDepth 100000 in
set_option maxHeartbeats 16000000 in
theorem s_l24Few (code : List Int) (cv : Value) (w : World) (hr : RdS Rep.byte w cv code) (hu : ∀ x ∈ code, U8 x) (hl : code.length ≤ 1048576) :
  Calls Tryz.prog 79 #[cv] w fun e w' => ∃ (g lo1 : Nat) (v : Value) (L : List Pth), e = .returned (.tuple #[.pointer (some ⟨g, 0, none⟩), v]) ∧ L.length ≤ 8 ∧ (∀ x ∈ L, PBd 3 x.parts) ∧ (Own.keep Pth.rep).own (rng lo1 w'.heap.size) w' v L ∧ w.heap.size ≤ g ∧ g < lo1 ∧ Cur g cv code w' ∧ Ext w w' := by
 have hx0 := Ext.refl w
 go_enter Tryz.func79, Tryz.ntmps79
 go_wp2_with fail
 refine (s_l1New code _ _ (hr.ext hx0) hu hl).mono ?_
 rintro e w1 ⟨g, rfl, hgl, hc1, hn1⟩
 have hgw := hc1.lt
 have s : DSt g cv code w1 w1 := ⟨hc1, Chg.refl _ _, hc1⟩
 clear hc1
 go_wp2_with fail
 have hbs : w1.heap.size ≤ w1.heap.size := s.x.size
 refine (s_l23Paths g _ _ _ s.c).mono ?_
 rintro e w2 ⟨v, L, rfl, hL, RP, hcq, hzq⟩
 replace s := s.draw hcq hzq
 obtain ⟨oP, cP, rfl, _⟩ := RdS.shape (Own.rd _ RP)
 have g_RP : g < w1.heap.size := by omega
 have u_RP : w2.heap.size ≤ w2.heap.size := by omega
 clear hzq hcq hbs 
 obtain ⟨_, _, hq9, hcap9, hmax9, hnil9, _⟩ := Own.rd _ RP
 cases hq9
 have hLb := hL.2
 go_upto_region 3 with (fail)
 by_cases h8 : L.length ≤ 8
 ·
  by_cases h0 : 0 < L.length
  ·
   obtain ⟨b9, off9, rfl⟩ := pth_part (Own.rd _ RP) h0
   replace RP := Own.ext RP ((Ext.refl w2).drew)
   replace u_RP := Nat.le_trans u_RP ((Ext.refl w2).drew).size
   replace s := s.ext ((Ext.refl w2).drew)
   refine planStep (.blk [0, 1, 2, 3] (.one 4 (.blk [5, 6, 7] .done))) [] (by kernel_rfl) (by kernel_rfl) ?_
   generalize w2.drew = wdd at RP u_RP s ⊢
   refine blkStep (fun K HK => ?_)
   simp only [PK]
   go_wp2_with fail
   refine HK.out _ _ ?_
   clear HK K
   refine oneStep (fun K HK => ?_)
   simp only [PK]
   go_wp2_with fail
   refine (s_Min _ _ _).mono ?_
   rintro e _ ⟨hq, rfl⟩
   rw [if_neg (show ¬ (8 : Int) < (L.length : Int) by omega)] at hq
   subst hq
   go_wp2_with fail
   refine HK.out _ _ (Ext.refl _) ?_
   clear HK K
   refine blkStep (fun K HK => ?_)
   simp only [PK]
   go_wp2_with fail
   refine HK.out _ _ ?_
   clear HK K
   refine doneStep (by kernel_rfl) ?_
   have hxe := hx0.trans (hn1.ofCur s.x hgl)
   go_wp2_with fail
   refine bodyPost_ret (v := .tuple #[.pointer (some ⟨g, 0, none⟩), .slice (some ⟨b9, off9, none⟩) L.length cP]) (by simp [results, Tryz.results79, go_sem]) rfl ?_
   exact ⟨g, _, _, L, rfl, h8, hLb, Own.upTo RP (Nat.le_refl _), hgl, g_RP, s.c, hxe⟩
  ·
   have hl0 : L.length = 0 := by omega
   obtain rfl : L = [] := List.eq_nil_of_length_eq_zero hl0
   clear hl0 h0 h8
   rcases oP with _ | ad9
   ·
    obtain rfl : cP = 0 := hnil9 rfl
    replace RP := Own.ext RP ((Ext.refl w2).drew)
    replace u_RP := Nat.le_trans u_RP ((Ext.refl w2).drew).size
    replace s := s.ext ((Ext.refl w2).drew)
    refine planStep (.blk [0, 1, 2, 3] (.one 4 (.blk [5, 6, 7] .done))) [] (by kernel_rfl) (by kernel_rfl) ?_
    generalize w2.drew = wdd at RP u_RP s ⊢
    refine blkStep (fun K HK => ?_)
    simp only [PK]
    go_wp2_with fail
    refine HK.out _ _ ?_
    clear HK K
    refine oneStep (fun K HK => ?_)
    simp only [PK]
    go_wp2_with fail
    refine (s_Min _ _ _).mono ?_
    rintro e _ ⟨hq, rfl⟩
    simp at hq
    subst hq
    go_wp2_with fail
    refine HK.out _ _ (Ext.refl _) ?_
    clear HK K
    refine blkStep (fun K HK => ?_)
    simp only [PK]
    go_wp2_with fail
    refine HK.out _ _ ?_
    clear HK K
    refine doneStep (by kernel_rfl) ?_
    have hxe := hx0.trans (hn1.ofCur s.x hgl)
    go_wp2_with fail
    refine bodyPost_ret (v := .tuple #[.pointer (some ⟨g, 0, none⟩), .slice none 0 0]) (by simp [results, Tryz.results79, go_sem]) rfl ?_
    exact ⟨g, _, _, [], rfl, (by simp), (by simp), Own.upTo RP (Nat.le_refl _), hgl, g_RP, s.c, hxe⟩
   ·
    replace RP := Own.ext RP ((Ext.refl w2).drew)
    replace u_RP := Nat.le_trans u_RP ((Ext.refl w2).drew).size
    replace s := s.ext ((Ext.refl w2).drew)
    refine planStep (.blk [0, 1, 2, 3] (.one 4 (.blk [5, 6, 7] .done))) [] (by kernel_rfl) (by kernel_rfl) ?_
    generalize w2.drew = wdd at RP u_RP s ⊢
    refine blkStep (fun K HK => ?_)
    simp only [PK]
    go_wp2_with fail
    refine HK.out _ _ ?_
    clear HK K
    refine oneStep (fun K HK => ?_)
    simp only [PK]
    go_wp2_with fail
    refine (s_Min _ _ _).mono ?_
    rintro e _ ⟨hq, rfl⟩
    simp at hq
    subst hq
    go_wp2_with fail
    refine HK.out _ _ (Ext.refl _) ?_
    clear HK K
    refine blkStep (fun K HK => ?_)
    simp only [PK]
    go_wp2_with fail
    refine HK.out _ _ ?_
    clear HK K
    refine doneStep (by kernel_rfl) ?_
    have hxe := hx0.trans (hn1.ofCur s.x hgl)
    go_wp2_with fail
    refine bodyPost_ret (v := .tuple #[.pointer (some ⟨g, 0, none⟩), .slice (some ad9) 0 cP]) (by simp [results, Tryz.results79, go_sem]) rfl ?_
    exact ⟨g, _, _, [], rfl, (by simp), (by simp), Own.upTo RP (Nat.le_refl _), hgl, g_RP, s.c, hxe⟩
 ·
  obtain ⟨b9, off9, rfl⟩ := pth_part (Own.rd _ RP) (by omega)
  have h9 : (8 : Int) < (L.length : Int) := by omega
  have hcP : 8 ≤ cP := by omega
  have hcQ : (8 : Int) ≤ (cP : Int) := by omega
  replace RP := Own.ext RP ((Ext.refl w2).drew)
  replace u_RP := Nat.le_trans u_RP ((Ext.refl w2).drew).size
  replace s := s.ext ((Ext.refl w2).drew)
  refine planStep (.blk [0, 1, 2, 3] (.one 4 (.blk [5, 6, 7] .done))) [] (by kernel_rfl) (by kernel_rfl) ?_
  generalize w2.drew = wdd at RP u_RP s ⊢
  refine blkStep (fun K HK => ?_)
  simp only [PK]
  go_wp2_with fail
  refine HK.out _ _ ?_
  clear HK K
  refine oneStep (fun K HK => ?_)
  simp only [PK]
  go_wp2_with fail
  refine (s_Min _ _ _).mono ?_
  rintro e _ ⟨hq, rfl⟩
  rw [if_pos h9] at hq
  subst hq
  go_wp2_with fail
  refine HK.out _ _ (Ext.refl _) ?_
  clear HK K
  refine blkStep (fun K HK => ?_)
  simp only [PK]
  go_wp2_with fail
  refine HK.out _ _ ?_
  clear HK K
  refine doneStep (by kernel_rfl) ?_
  have hxe := hx0.trans (hn1.ofCur s.x hgl)
  go_wp2_with fail
  refine bodyPost_ret (v := .tuple #[.pointer (some ⟨g, 0, none⟩), .slice (some ⟨b9, off9, none⟩) 8 cP]) (by simp [results, Tryz.results79, go_sem]) rfl ?_
  exact ⟨g, _, _, (L.take 8), rfl, (by simp; omega), (fun x hx => hLb x (List.mem_of_mem_take hx)), Own.upTo (keep_takeP RP (by omega)) (Nat.le_refl _), hgl, g_RP, s.c, hxe⟩

set_option maxRecDepth 100000 in
set_option maxHeartbeats 8000000 in
theorem s_DrawPreferUnrevoked (code : List Int) (cv : Value) (w : World) (hr : RdS Rep.byte w cv code) (hu : ∀ x ∈ code, U8 x) (hl : code.length ≤ 1048576) :
  Calls Tryz.prog 8 #[cv] w fun e w' => ∃ (vl vp : Value) (l : List Revc) (L : List Pth), e = .returned (.tuple #[vl, vp, .int .i64 45]) ∧ l.length ≤ 16 ∧ L.length ≤ 8 ∧ (∀ x ∈ L, PBd 3 x.parts) ∧ RdS Revc.rep w' vl l ∧ RdS Pth.rep w' vp L ∧ Ext w w' := by
 have hx0 := Ext.refl w
 go_enter Tryz.func8, Tryz.ntmps8
 go_wp2_with fail
 refine (s_l24Few code _ _ (hr.ext hx0) hu hl).mono ?_
 rintro e w1 ⟨g, lo1, vp, L, rfl, hL8, hLb, RP, hgl, hglo, hc1, hn1⟩
 have hgw := hc1.lt
 have s : DSt g cv code w1 w1 := ⟨hc1, Chg.refl _ _, hc1⟩
 have g_RP : g < lo1 := hglo
 have u_RP : w1.heap.size ≤ w1.heap.size := Nat.le_refl _
 clear hc1
 go_wp2_with fail
 have hbs : w1.heap.size ≤ w1.heap.size := s.x.size
 refine (s_l31List g _ _ _ s.c).mono ?_
 rintro e w2 ⟨vl, l, rfl, hl16, RQ, hcq, hzq⟩
 replace RP := Own.at1g RP hzq (.inl g_RP)
 replace u_RP := Nat.le_trans u_RP hzq.size
 replace s := s.draw hcq hzq
 have g_RQ : g < w1.heap.size := by omega
 have u_RQ : w2.heap.size ≤ w2.heap.size := by omega
 clear hzq hcq hbs 
 have hxe := hx0.trans (hn1.ofCur s.x hgl)
 go_wp2_with fail
 refine bodyPost_ret (v := .tuple #[vl, vp, .int .i64 45]) (by simp [results, Tryz.results8, go_sem]) rfl ?_
 exact ⟨vl, vp, l, L, rfl, hl16, hL8, hLb, Own.rd _ RQ, Own.rd _ RP, hxe⟩

set_option maxRecDepth 100000 in
set_option maxHeartbeats 16000000 in
theorem s_DrawAffects (code : List Int) (cv : Value) (w : World) (hr : RdS Rep.byte w cv code) (hu : ∀ x ∈ code, U8 x) (hl : code.length ≤ 1048576) :
  Calls Tryz.prog 12 #[cv] w fun e w' => ∃ (vp : Value) (p : Pth) (x : Revc), e = .returned (.tuple #[.agg #[vp], .agg #[.int .i64 x.asn, .int .i64 x.iface, .int .i64 x.till]]) ∧ p.parts.length ≤ 4 ∧ (∀ x ∈ p.parts, x.hops.length ≤ 5) ∧ RdS Part.rep w' vp p.parts ∧ Ext w w' := by
 have hx0 := ext2 w (.cells #[.slice none 0 0] 35) (.cells #[.int .i64 0, .int .i64 0, .int .i64 0] 30)
 have HB := al2 w (.cells #[.slice none 0 0] 35) (.cells #[.int .i64 0, .int .i64 0, .int .i64 0] 30)
 go_enter Tryz.func12, Tryz.ntmps12
 go_wp2_with fail
 refine (s_l22One code _ _ (hr.ext hx0) hu hl).mono ?_
 rintro e w1 ⟨g, lo1, v1, v2, vp, t, p, rfl, TK, hp4, hx5, RA, RL, RP, hgl, hglo, hc1, hn1⟩
 have hgw := hc1.lt
 have s : DSt g cv code w1 w1 := ⟨hc1, Chg.refl _ _, hc1⟩
 have B2 := Ext.block hn1 HB.1
 have B3 := Ext.block hn1 HB.2
 have hgr : (w.heap.size + 1) < g := by simp at hgl; omega
 clear HB
 have g_RA : g < lo1 := hglo
 have u_RA : w1.heap.size ≤ w1.heap.size := Nat.le_refl _
 have lt_B2_RA : w.heap.size < lo1 := by omega
 have lt_B3_RA : (w.heap.size + 1) < lo1 := by omega
 have g_RL : g < lo1 := hglo
 have u_RL : w1.heap.size ≤ w1.heap.size := Nat.le_refl _
 have lt_B2_RL : w.heap.size < lo1 := by omega
 have lt_B3_RL : (w.heap.size + 1) < lo1 := by omega
 have g_RP : g < lo1 := hglo
 have u_RP : w1.heap.size ≤ w1.heap.size := Nat.le_refl _
 have lt_B2_RP : w.heap.size < lo1 := by omega
 have lt_B3_RP : (w.heap.size + 1) < lo1 := by omega
 obtain ⟨o1, c1, rfl, _⟩ := RdS.shape (Own.rd _ RA)
 obtain ⟨o2, c2, rfl, _⟩ := RdS.shape (Own.rd _ RL)
 obtain ⟨op_, cp_, rfl, _⟩ := RdS.shape (Own.rd _ RP)
 clear hc1
 have cb_B2 := blk1 B2
 have cb_B3 := blk3 B3
 go_upto_region 2 with (fail)
 clear cb_B2 cb_B3
 have hxa := ext2 w1 (.cells #[.slice o1 t.ases.length c1, .slice o2 t.links.length c2] 56) (.cells #[.slice op_ p.parts.length cp_] 35)
 have BB := al2 w1 (.cells #[.slice o1 t.ases.length c1, .slice o2 t.links.length c2] 56) (.cells #[.slice op_ p.parts.length cp_] 35)
 obtain ⟨b5, eb5⟩ : ∃ b, b = w1.heap.size := ⟨_, rfl⟩
 have ltw_b5 : w1.heap.size ≤ b5 := by rw [eb5]; exact s.x.size
 have lt_B2_b5 : w.heap.size < b5 := by rw [eb5]; exact blk_lt B2
 have lt_B3_b5 : (w.heap.size + 1) < b5 := by rw [eb5]; exact blk_lt B3
 have hb_RA_b5 : w1.heap.size ≤ b5 := by rw [eb5]; exact u_RA
 have hb_RL_b5 : w1.heap.size ≤ b5 := by rw [eb5]; exact u_RL
 have hb_RP_b5 : w1.heap.size ≤ b5 := by rw [eb5]; exact u_RP
 replace B2 := Ext.block hxa B2
 replace B3 := Ext.block hxa B3
 replace RA := Own.ext RA hxa
 replace u_RA := Nat.le_trans u_RA hxa.size
 replace RL := Own.ext RL hxa
 replace u_RL := Nat.le_trans u_RL hxa.size
 replace RP := Own.ext RP hxa
 replace u_RP := Nat.le_trans u_RP hxa.size
 replace s := s.ext hxa
 have B5 := BB.1
 have B6 := BB.2
 rw [← eb5] at B5 B6
 rw [← eb5]
 clear hxa BB
 generalize ((w1.alloc (.cells #[.slice o1 t.ases.length c1, .slice o2 t.links.length c2] 56)).alloc (.cells #[.slice op_ p.parts.length cp_] 35)) = wa at B2 B3 B5 B6 RA RL RP u_RA u_RL u_RP s ⊢
 clear eb5
 clear B5
 clear u_RA g_RA
 clear RA
 clear u_RL g_RL
 clear RL
 have hps := pth_size hp4 hx5
 have cb_B2 := blk1 B2
 have cb_B3 := blk3 B3
 have cb_B6 := blk1 B6
 go_wp2_with fail
 clear cb_B2 cb_B3 cb_B6
 have hbs : w1.heap.size ≤ wa.heap.size := s.x.size
 have ltq_B2 : w.heap.size < wa.heap.size := blk_lt B2
 have ltq_B3 : (w.heap.size + 1) < wa.heap.size := blk_lt B3
 have ltq_B6 : (b5 + 1) < wa.heap.size := blk_lt B6
 refine (s_InterfacesUsed p _ _ (Own.rd _ RP) (by omega)).mono ?_
 rintro e w2 ⟨vI, rfl, OI, hzq⟩
 replace B2 := Ext.block hzq B2
 replace B3 := Ext.block hzq B3
 replace B6 := Ext.block hzq B6
 replace RP := Own.ext RP hzq
 replace u_RP := Nat.le_trans u_RP hzq.size
 replace s := s.ext hzq
 obtain ⟨d, hd⟩ : ∃ d, d = usedIfs (pathSteps p.parts) := ⟨_, rfl⟩
 rw [← hd] at OI
 have hdl : d.length ≤ 1048576 := by rw [hd]; have h1 := usedIfs_len (pathSteps p.parts); have h2 := steps_len hp4 hx5; omega
 have RI : (Own.keep Rep.int).own (rng wa.heap.size w2.heap.size) w2 vI d := Own.toKeep (Own.ofFr (hf := intFlen) OI (Nat.le_refl _))
 clear OI hd
 obtain ⟨o_I, c_I, rfl, _⟩ := RdS.shape (Own.rd _ RI)
 have g_RI : g < wa.heap.size := by omega
 have u_RI : w2.heap.size ≤ w2.heap.size := by omega
 have lt_B2_RI : w.heap.size < wa.heap.size := by omega
 have lt_B3_RI : (w.heap.size + 1) < wa.heap.size := by omega
 have lt_B6_RI : (b5 + 1) < wa.heap.size := by omega
 clear hzq hbs ltq_B2 ltq_B3 ltq_B6
 have cb_B2 := blk1 B2
 have cb_B3 := blk3 B3
 have cb_B6 := blk1 B6
 go_upto_region 3 with (fail)
 clear cb_B2 cb_B3 cb_B6
 go_cut [23] (fun vo wx => ∃ (bo : Bool), (vo = .bool bo) ∧ (bo = true → 0 < d.length) ∧ wx.heap[w.heap.size]? = some (.cells #[.slice none 0 0] 35 (0, 0)) ∧ wx.heap[(w.heap.size + 1)]? = some (.cells #[.int .i64 0, .int .i64 0, .int .i64 0] 30 (0, 0)) ∧ wx.heap[(b5 + 1)]? = some (.cells #[.slice op_ p.parts.length cp_] 35 (0, 0)) ∧ ((Own.keep Part.rep).own (rng lo1 w1.heap.size) wx (.slice op_ p.parts.length cp_) p.parts ∧ w1.heap.size ≤ wx.heap.size) ∧ ((Own.keep Rep.int).own (rng wa.heap.size w2.heap.size) wx (.slice o_I d.length c_I) d ∧ w2.heap.size ≤ wx.heap.size) ∧ Cur g cv code wx ∧ Chg (at1 g) w1 wx)
 case first =>
  by_cases h0 : 0 < d.length
  ·
   have h01 : (0 : Int) < (d.length : Int) := by omega
   have HH0 := Lib.hid h0
   clear h0
   have cb_B2 := blk1 B2
   have cb_B3 := blk3 B3
   have cb_B6 := blk1 B6
   go_wp2_with fail
   clear cb_B2 cb_B3 cb_B6
   refine (s_l1Once g (2) _ _ _ s.c).mono ?_
   rintro e w3 ⟨bx, rfl, hcq, hzq⟩
   replace B2 := hzq.blkS B2 (by unfold at1; omega)
   replace B3 := hzq.blkS B3 (by unfold at1; omega)
   replace B6 := hzq.blkS B6 (by unfold at1; omega)
   replace RP := Own.at1g RP hzq (.inl g_RP)
   replace u_RP := Nat.le_trans u_RP hzq.size
   replace RI := Own.at1g RI hzq (.inl g_RI)
   replace u_RI := Nat.le_trans u_RI hzq.size
   replace s := s.draw hcq hzq
   clear hzq hcq
   go_wp2_with fail
   go_meet
   exact ⟨bx, rfl, (fun _ => HH0.out), B2, B3, B6, ⟨RP, u_RP⟩, ⟨RI, u_RI⟩, s.c, s.x⟩
  ·
   have h01 : ¬ (0 : Int) < (d.length : Int) := by omega
   go_wp2_with fail
   go_meet
   exact ⟨false, rfl, (fun h => by cases h), B2, B3, B6, ⟨RP, u_RP⟩, ⟨RI, u_RI⟩, s.c, s.x⟩
 case rest =>
  have hc0z := s.c0
  clear s B2 B3 B6 RP RI u_RP u_RI
  obtain ⟨bo, hvo, hbo, B2, B3, B6, ⟨RP, u_RP⟩, ⟨RI, u_RI⟩, hcC, hcX⟩ := hcut
  obtain ⟨wz1, hwz⟩ : ∃ wz : World, wz = wc := ⟨_, rfl⟩
  subst hwz
  have s : DSt g cv code w1 wz1 := ⟨hcC, hcX, hc0z⟩
  clear hcC hcX hc0z
  subst hvo
  cases bo
  case false =>
   clear hbo
   have cb_B2 := blk1 B2
   have cb_B3 := blk3 B3
   have cb_B6 := blk1 B6
   go_upto_region 6 with (fail)
   clear cb_B2 cb_B3 cb_B6
   refine wp_region_fin (fun k => k = g ∨ k = w.heap.size) [([0, 1], 2), ([], 3)] [] [4] (by kernel_rfl) (by kernel_rfl) (by kernel_rfl) ?_
   have ch_B6 := blk1 B6
   have q0 := ChgSW.cell (S := fun k => k = g ∨ k = w.heap.size) (ch_B6) (by first | (unfold at1; simp only; omega) | (simp only; omega))
   clear ch_B6
   simp only [wpBlocksX, pickOps, PK]
   have hch : Chg (fun k => k = g ∨ k = w.heap.size) wz1 wz1.drew := Chg.ofExt (Ext.refl wz1).drew
   replace B2 := Ext.block ((Ext.refl wz1).drew) B2
   replace B3 := Ext.block ((Ext.refl wz1).drew) B3
   replace B6 := Ext.block ((Ext.refl wz1).drew) B6
   replace RP := Own.ext RP ((Ext.refl wz1).drew)
   replace u_RP := Nat.le_trans u_RP ((Ext.refl wz1).drew).size
   replace RI := Own.ext RI ((Ext.refl wz1).drew)
   replace u_RI := Nat.le_trans u_RI ((Ext.refl wz1).drew).size
   replace s := s.ext ((Ext.refl wz1).drew)
   obtain ⟨wt, hnw⟩ : ∃ wn, wn = wz1.drew := ⟨_, rfl⟩
   rw [← hnw] at B2 B3 B6 RP RI u_RP u_RI s hch ⊢
   clear hnw
   repeat (first | go_big_quiet_step (fail) | quiet_step (fail))
   refine wpQuiet_nil ?_
   go_wp2_with fail
   refine (s_l31Any g _ _ _ s.c).mono ?_
   rintro e w3 ⟨x, rfl, hcq, hzq⟩
   replace B2 := hzq.blkS B2 (by unfold at1; omega)
   replace B3 := hzq.blkS B3 (by unfold at1; omega)
   replace B6 := hzq.blkS B6 (by unfold at1; omega)
   replace RP := Own.at1g RP hzq (.inl g_RP)
   replace u_RP := Nat.le_trans u_RP hzq.size
   replace RI := Own.at1g RI hzq (.inl g_RI)
   replace u_RI := Nat.le_trans u_RI hzq.size
   replace s := s.draw hcq hzq
   replace hch := hch.trans (hzq.mono (fun b h => .inl h))
   clear hzq hcq
   go_wp2_with fail
   refine ⟨⟨⟨_, hch⟩, rfl⟩, ?_⟩
   repeat (first | go_big_quiet_step (fail) | quiet_step (fail))
   refine wpQuiet_nil ?_
   have hxe := hx0.trans (hn1.ofCur s.x hgl)
   obtain ⟨wpa, hwa, hba, hca⟩ := set1 B2 (.slice op_ p.parts.length cp_)
   have HWa := Lib.hid hwa
   clear hwa
   have ff0 := fr_of B2 0
   have cb := blk1 B2
   go_wp2_with fail
   rw [← HWa.out]
   clear HWa cb ff0
   replace hch := hch.trans (hca.mono (fun b h => .inr h))
   refine ⟨⟨⟨_, hch⟩, rfl⟩, ?_⟩
   replace RP := Own.at1g RP hca (by omega)
   replace u_RP := Nat.le_trans u_RP hca.size
   replace RI := Own.at1g RI hca (by omega)
   replace u_RI := Nat.le_trans u_RI hca.size
   replace B3 := hca.blkS B3 (by unfold at1; omega)
   replace B6 := hca.blkS B6 (by unfold at1; omega)
   replace B2 := hba
   clear hba
   replace hxe := hxe.chg hca (fun i hi => by have h1 : i = w.heap.size := hi; omega)
   try clear hca
   repeat (first | go_big_quiet_step (fail) | quiet_step (fail))
   refine wpQuiet_nil ?_
   obtain ⟨wpb, hwb, hbb, hcb⟩ := three_set B3 (.int .i64 x.asn) (.int .i64 x.iface) (.int .i64 x.till)
   have HWb := Lib.hid hwb
   clear hwb
   have ff0 := fr_of B3 0
   have ff1 := fr_of B3 1
   have ff2 := fr_of B3 2
   have cb := blk3 B3
   go_wp2_with fail
   rw [← HWb.out]
   clear HWb cb ff0 ff1 ff2
   replace RP := Own.at1g RP hcb (by omega)
   replace u_RP := Nat.le_trans u_RP hcb.size
   replace RI := Own.at1g RI hcb (by omega)
   replace u_RI := Nat.le_trans u_RI hcb.size
   replace B2 := hcb.blkS B2 (by unfold at1; omega)
   replace B6 := hcb.blkS B6 (by unfold at1; omega)
   replace B3 := hbb
   clear hbb
   replace hxe := hxe.chg hcb (fun i hi => by have h1 : i = (w.heap.size + 1) := hi; omega)
   try clear hcb
   refine NoPanic.normal ?_
   clear hch q0
   have cr_B2 := blk1 B2
   have cr_B3 := blk3 B3
   have cr_B6 := blk1 B6
   have hwb := (hx0.trans hn1).size
   go_wp2_with fail
   refine bodyPost_ret (v := .tuple #[.agg #[.slice op_ p.parts.length cp_], .agg #[.int .i64 x.asn, .int .i64 x.iface, .int .i64 x.till]]) (by simp [results, Tryz.results12, go_sem, cr_B2, cr_B3]) rfl ?_
   exact ⟨_, p, x, rfl, hp4, hx5, Own.rd _ RP, hxe⟩
  case true =>
   have h0 := hbo rfl
   clear hbo
   have cb_B2 := blk1 B2
   have cb_B3 := blk3 B3
   have cb_B6 := blk1 B6
   go_wp2_with fail
   clear cb_B2 cb_B3 cb_B6
   refine (s_l1Below g (d.length : Int) _ _ _ s.c).mono ?_
   rintro e w3 ⟨n, rfl, hn0, hn1b, hcq, hzq⟩
   replace B2 := hzq.blkS B2 (by unfold at1; omega)
   replace B3 := hzq.blkS B3 (by unfold at1; omega)
   replace B6 := hzq.blkS B6 (by unfold at1; omega)
   replace RP := Own.at1g RP hzq (.inl g_RP)
   replace u_RP := Nat.le_trans u_RP hzq.size
   replace RI := Own.at1g RI hzq (.inl g_RI)
   replace u_RI := Nat.le_trans u_RI hzq.size
   replace s := s.draw hcq hzq
   clear hzq hcq
   obtain ⟨k, rfl⟩ := Int.eq_ofNat_of_zero_le hn0
   have hk : k < d.length := by omega
   obtain ⟨bq, offq, rfl, hcq9⟩ := ints_at (Own.rd _ RI) k hk
   have hkk : (k : Int) < (d.length : Int) := by omega
   obtain ⟨z, hz9⟩ : ∃ z, z = d[k] := ⟨_, rfl⟩
   rw [← hz9] at hcq9
   clear hz9 hn0 hn1b
   have cb_B2 := blk1 B2
   have cb_B3 := blk3 B3
   have cb_B6 := blk1 B6
   go_upto_region 5 with (fail)
   clear cb_B2 cb_B3 cb_B6
   clear hcq9
   obtain ⟨wpc, hwc, hbc, hcc⟩ := set1 B2 (.slice op_ p.parts.length cp_)
   have HWc := Lib.hid hwc
   clear hwc
   have fc0 := fr_of B2 0
   have fk0 := fr_of B3 0
   have fk1 := fr_of B3 1
   have fk2 := fr_of B3 2
   have cb_B2 := blk1 B2
   have cb_B3 := blk3 B3
   have cb_B6 := blk1 B6
   go_wp2_with fail
   clear cb_B2 cb_B3 cb_B6
   rw [← HWc.out]
   clear HWc fc0 fk0 fk1 fk2
   have hxe := hx0.trans (hn1.ofCur s.x hgl)
   replace RP := Own.at1g RP hcc (by omega)
   replace u_RP := Nat.le_trans u_RP hcc.size
   replace RI := Own.at1g RI hcc (by omega)
   replace u_RI := Nat.le_trans u_RI hcc.size
   replace B3 := hcc.blkS B3 (by unfold at1; omega)
   replace B6 := hcc.blkS B6 (by unfold at1; omega)
   replace B2 := hbc
   clear hbc
   replace hxe := hxe.chg hcc (fun i hi => by have h1 : i = w.heap.size := hi; omega)
   try clear hcc
   obtain ⟨wpd, hwd, hbd, hcd⟩ := three_set B3 (.int .i64 (wrap64 (z.tdiv 8))) (.int .i64 (z.tmod 8)) (.int .i64 9)
   rw [← hwd]
   clear hwd
   replace RP := Own.at1g RP hcd (by omega)
   replace u_RP := Nat.le_trans u_RP hcd.size
   replace RI := Own.at1g RI hcd (by omega)
   replace u_RI := Nat.le_trans u_RI hcd.size
   replace B2 := hcd.blkS B2 (by unfold at1; omega)
   replace B6 := hcd.blkS B6 (by unfold at1; omega)
   replace B3 := hbd
   clear hbd
   replace hxe := hxe.chg hcd (fun i hi => by have h1 : i = (w.heap.size + 1) := hi; omega)
   try clear hcd
   have cr_B2 := blk1 B2
   have cr_B3 := blk3 B3
   have cr_B6 := blk1 B6
   have hwb := (hx0.trans hn1).size
   go_wp2_with fail
   refine bodyPost_ret (v := .tuple #[.agg #[.slice op_ p.parts.length cp_], .agg #[.int .i64 (wrap64 (z.tdiv 8)), .int .i64 (z.tmod 8), .int .i64 9]]) (by simp [results, Tryz.results12, go_sem, cr_B2, cr_B3]) rfl ?_
   exact ⟨_, p, ⟨wrap64 (z.tdiv 8), z.tmod 8, 9⟩, rfl, hp4, hx5, Own.rd _ RP, hxe⟩

set_option maxRecDepth 100000 in
set_option maxHeartbeats 16000000 in
theorem s_DrawRevoked (code : List Int) (cv : Value) (w : World) (hr : RdS Rep.byte w cv code) (hu : ∀ x ∈ code, U8 x) (hl : code.length ≤ 1048576) :
  Calls Tryz.prog 11 #[cv] w fun e w' => ∃ (vl vp : Value) (l : List Revc) (p : Pth) (now : Int), e = .returned (.tuple #[vl, .agg #[vp], .int .i64 now]) ∧ l.length ≤ 16 ∧ p.parts.length ≤ 4 ∧ (∀ x ∈ p.parts, x.hops.length ≤ 5) ∧ RdS Revc.rep w' vl l ∧ RdS Part.rep w' vp p.parts ∧ Ext w w' := by
 have hx0 : Ext w (w.alloc (.cells #[.slice none 0 0] 35)) := (Ext.refl _).alloc _
 have HB := blk_new w (.cells #[.slice none 0 0] 35)
 go_enter Tryz.func11, Tryz.ntmps11
 go_wp2_with fail
 refine (s_l22One code _ _ (hr.ext hx0) hu hl).mono ?_
 rintro e w1 ⟨g, lo1, v1, v2, vp, t, p, rfl, TK, hp4, hx5, RA, RL, RP, hgl, hglo, hc1, hn1⟩
 have hgw := hc1.lt
 have s : DSt g cv code w1 w1 := ⟨hc1, Chg.refl _ _, hc1⟩
 have B3 := Ext.block hn1 HB
 have hgr : w.heap.size < g := by simp at hgl; omega
 clear HB
 have g_RA : g < lo1 := hglo
 have u_RA : w1.heap.size ≤ w1.heap.size := Nat.le_refl _
 have lt_B3_RA : w.heap.size < lo1 := by omega
 have g_RL : g < lo1 := hglo
 have u_RL : w1.heap.size ≤ w1.heap.size := Nat.le_refl _
 have lt_B3_RL : w.heap.size < lo1 := by omega
 have g_RP : g < lo1 := hglo
 have u_RP : w1.heap.size ≤ w1.heap.size := Nat.le_refl _
 have lt_B3_RP : w.heap.size < lo1 := by omega
 obtain ⟨o1, c1, rfl, _⟩ := RdS.shape (Own.rd _ RA)
 obtain ⟨o2, c2, rfl, _⟩ := RdS.shape (Own.rd _ RL)
 obtain ⟨op_, cp_, rfl, _⟩ := RdS.shape (Own.rd _ RP)
 clear hc1
 have cb_B3 := blk1 B3
 go_upto_region 2 with (fail)
 clear cb_B3
 have hxa := ext2 w1 (.cells #[.slice o1 t.ases.length c1, .slice o2 t.links.length c2] 56) (.cells #[.slice op_ p.parts.length cp_] 35)
 have BB := al2 w1 (.cells #[.slice o1 t.ases.length c1, .slice o2 t.links.length c2] 56) (.cells #[.slice op_ p.parts.length cp_] 35)
 obtain ⟨b6, eb6⟩ : ∃ b, b = w1.heap.size := ⟨_, rfl⟩
 have ltw_b6 : w1.heap.size ≤ b6 := by rw [eb6]; exact s.x.size
 have lt_B3_b6 : w.heap.size < b6 := by rw [eb6]; exact blk_lt B3
 have hb_RA_b6 : w1.heap.size ≤ b6 := by rw [eb6]; exact u_RA
 have hb_RL_b6 : w1.heap.size ≤ b6 := by rw [eb6]; exact u_RL
 have hb_RP_b6 : w1.heap.size ≤ b6 := by rw [eb6]; exact u_RP
 replace B3 := Ext.block hxa B3
 replace RA := Own.ext RA hxa
 replace u_RA := Nat.le_trans u_RA hxa.size
 replace RL := Own.ext RL hxa
 replace u_RL := Nat.le_trans u_RL hxa.size
 replace RP := Own.ext RP hxa
 replace u_RP := Nat.le_trans u_RP hxa.size
 replace s := s.ext hxa
 have B6 := BB.1
 have B7 := BB.2
 rw [← eb6] at B6 B7
 rw [← eb6]
 clear hxa BB
 generalize ((w1.alloc (.cells #[.slice o1 t.ases.length c1, .slice o2 t.links.length c2] 56)).alloc (.cells #[.slice op_ p.parts.length cp_] 35)) = wa at B3 B6 B7 RA RL RP u_RA u_RL u_RP s ⊢
 clear eb6
 clear B6
 clear u_RA g_RA
 clear RA
 clear u_RL g_RL
 clear RL
 have cb_B3 := blk1 B3
 have cb_B7 := blk1 B7
 go_wp2_with fail
 clear cb_B3 cb_B7
 have hbs : w1.heap.size ≤ wa.heap.size := s.x.size
 have ltq_B3 : w.heap.size < wa.heap.size := blk_lt B3
 have ltq_B7 : (b6 + 1) < wa.heap.size := blk_lt B7
 refine (s_l31List g _ _ _ s.c).mono ?_
 rintro e w2 ⟨vl, l, rfl, hl16, RQ, hcq, hzq⟩
 replace B3 := hzq.blkS B3 (by unfold at1; omega)
 replace B7 := hzq.blkS B7 (by unfold at1; omega)
 replace RP := Own.at1g RP hzq (.inl g_RP)
 replace u_RP := Nat.le_trans u_RP hzq.size
 replace s := s.draw hcq hzq
 have g_RQ : g < wa.heap.size := by omega
 have u_RQ : w2.heap.size ≤ w2.heap.size := by omega
 have lt_B3_RQ : w.heap.size < wa.heap.size := by omega
 have lt_B7_RQ : (b6 + 1) < wa.heap.size := by omega
 clear hzq hcq hbs ltq_B3 ltq_B7
 have hps := pth_size hp4 hx5
 have cb_B3 := blk1 B3
 have cb_B7 := blk1 B7
 go_wp2_with fail
 clear cb_B3 cb_B7
 have hbs : w1.heap.size ≤ w2.heap.size := s.x.size
 have ltq_B3 : w.heap.size < w2.heap.size := blk_lt B3
 have ltq_B7 : (b6 + 1) < w2.heap.size := blk_lt B7
 refine (s_InterfacesUsed p _ _ (Own.rd _ RP) (by omega)).mono ?_
 rintro e w3 ⟨vI, rfl, OI, hzq⟩
 replace B3 := Ext.block hzq B3
 replace B7 := Ext.block hzq B7
 replace RP := Own.ext RP hzq
 replace u_RP := Nat.le_trans u_RP hzq.size
 replace RQ := Own.ext RQ hzq
 replace u_RQ := Nat.le_trans u_RQ hzq.size
 replace s := s.ext hzq
 obtain ⟨d, hd⟩ : ∃ d, d = usedIfs (pathSteps p.parts) := ⟨_, rfl⟩
 rw [← hd] at OI
 have hdl : d.length ≤ 1048576 := by rw [hd]; have h1 := usedIfs_len (pathSteps p.parts); have h2 := steps_len hp4 hx5; omega
 have RI : (Own.keep Rep.int).own (rng w2.heap.size w3.heap.size) w3 vI d := Own.toKeep (Own.ofFr (hf := intFlen) OI (Nat.le_refl _))
 clear OI hd
 obtain ⟨o_I, c_I, rfl, _⟩ := RdS.shape (Own.rd _ RI)
 have g_RI : g < w2.heap.size := by omega
 have u_RI : w3.heap.size ≤ w3.heap.size := by omega
 have lt_B3_RI : w.heap.size < w2.heap.size := by omega
 have lt_B7_RI : (b6 + 1) < w2.heap.size := by omega
 clear hzq hbs ltq_B3 ltq_B7
 have cb_B3 := blk1 B3
 have cb_B7 := blk1 B7
 go_upto_region 4 with (fail)
 clear cb_B3 cb_B7
 go_cut [26] (fun vo wx => ∃ (bo : Bool), (vo = .bool bo) ∧ (bo = true → 0 < d.length) ∧ wx.heap[w.heap.size]? = some (.cells #[.slice none 0 0] 35 (0, 0)) ∧ wx.heap[(b6 + 1)]? = some (.cells #[.slice op_ p.parts.length cp_] 35 (0, 0)) ∧ ((Own.keep Part.rep).own (rng lo1 w1.heap.size) wx (.slice op_ p.parts.length cp_) p.parts ∧ w1.heap.size ≤ wx.heap.size) ∧ ((Own.keep Rep.int).own (rng w2.heap.size w3.heap.size) wx (.slice o_I d.length c_I) d ∧ w3.heap.size ≤ wx.heap.size) ∧ ((Own.keep Revc.rep).own (rng wa.heap.size w2.heap.size) wx vl l ∧ w2.heap.size ≤ wx.heap.size) ∧ Cur g cv code wx ∧ Chg (at1 g) w1 wx)
 case first =>
  by_cases h0 : 0 < d.length
  ·
   have h01 : (0 : Int) < (d.length : Int) := by omega
   have HH0 := Lib.hid h0
   clear h0
   have cb_B3 := blk1 B3
   have cb_B7 := blk1 B7
   go_wp2_with fail
   clear cb_B3 cb_B7
   refine (s_l1Once g (2) _ _ _ s.c).mono ?_
   rintro e w4 ⟨bx, rfl, hcq, hzq⟩
   replace B3 := hzq.blkS B3 (by unfold at1; omega)
   replace B7 := hzq.blkS B7 (by unfold at1; omega)
   replace RP := Own.at1g RP hzq (.inl g_RP)
   replace u_RP := Nat.le_trans u_RP hzq.size
   replace RQ := Own.at1g RQ hzq (.inl g_RQ)
   replace u_RQ := Nat.le_trans u_RQ hzq.size
   replace RI := Own.at1g RI hzq (.inl g_RI)
   replace u_RI := Nat.le_trans u_RI hzq.size
   replace s := s.draw hcq hzq
   clear hzq hcq
   go_wp2_with fail
   go_meet
   exact ⟨bx, rfl, (fun _ => HH0.out), B3, B7, ⟨RP, u_RP⟩, ⟨RI, u_RI⟩, ⟨RQ, u_RQ⟩, s.c, s.x⟩
  ·
   have h01 : ¬ (0 : Int) < (d.length : Int) := by omega
   go_wp2_with fail
   go_meet
   exact ⟨false, rfl, (fun h => by cases h), B3, B7, ⟨RP, u_RP⟩, ⟨RI, u_RI⟩, ⟨RQ, u_RQ⟩, s.c, s.x⟩
 case rest =>
  have hc0z := s.c0
  clear s B3 B7 RP RQ RI u_RP u_RQ u_RI
  obtain ⟨bo, hvo, hbo, B3, B7, ⟨RP, u_RP⟩, ⟨RI, u_RI⟩, ⟨RQ, u_RQ⟩, hcC, hcX⟩ := hcut
  obtain ⟨wz1, hwz⟩ : ∃ wz : World, wz = wc := ⟨_, rfl⟩
  subst hwz
  have s : DSt g cv code w1 wz1 := ⟨hcC, hcX, hc0z⟩
  clear hcC hcX hc0z
  subst hvo
  have cb_B3 := blk1 B3
  have cb_B7 := blk1 B7
  go_upto_if 26 with (fail)
  clear cb_B3 cb_B7
  go_cut [8] (fun v8 wx => ∃ (m : List Revc) (vm : Value) (lo : Nat) (hi : Nat), (v8 = vm) ∧ (m.length ≤ 16) ∧ (g < lo) ∧ wx.heap[w.heap.size]? = some (.cells #[.slice none 0 0] 35 (0, 0)) ∧ wx.heap[(b6 + 1)]? = some (.cells #[.slice op_ p.parts.length cp_] 35 (0, 0)) ∧ ((Own.keep Part.rep).own (rng lo1 w1.heap.size) wx (.slice op_ p.parts.length cp_) p.parts ∧ w1.heap.size ≤ wx.heap.size) ∧ ((Own.keep Revc.rep).own (rng lo hi) wx vm m ∧ hi ≤ wx.heap.size) ∧ Cur g cv code wx ∧ Chg (at1 g) w1 wx)
  case first =>
   cases bo
   case false =>
    go_wp2_with fail
    go_meet
    exact ⟨l, _, _, _, rfl, hl16, g_RQ, B3, B7, ⟨RP, u_RP⟩, ⟨RQ, u_RQ⟩, s.c, s.x⟩
   case true =>
    have h0 := hbo rfl
    obtain ⟨bq, offq, rfl, hcq9⟩ := ints_at (Own.rd _ RI) 0 h0
    obtain ⟨z, hz9⟩ : ∃ z, z = d[0] := ⟨_, rfl⟩
    rw [← hz9] at hcq9
    simp only [Nat.add_zero] at hcq9
    have h00 : (0 : Int) < (d.length : Int) := by omega
    clear hz9
    have cb_B3 := blk1 B3
    have cb_B7 := blk1 B7
    go_upto_region 5 with (fail)
    clear cb_B3 cb_B7
    refine planStep (.blk [0, 1, 2, 3, 4, 5, 6, 7, 8, 9] (.one 10 (.blk [11] .done))) [] (by kernel_rfl) (by kernel_rfl) ?_
    have hcd := Ext.cell ((Ext.refl wz1).drew) hcq9
    replace B3 := Ext.block ((Ext.refl wz1).drew) B3
    replace B7 := Ext.block ((Ext.refl wz1).drew) B7
    replace RP := Own.ext RP ((Ext.refl wz1).drew)
    replace u_RP := Nat.le_trans u_RP ((Ext.refl wz1).drew).size
    replace RI := Own.ext RI ((Ext.refl wz1).drew)
    replace u_RI := Nat.le_trans u_RI ((Ext.refl wz1).drew).size
    replace RQ := Own.ext RQ ((Ext.refl wz1).drew)
    replace u_RQ := Nat.le_trans u_RQ ((Ext.refl wz1).drew).size
    replace s := s.ext ((Ext.refl wz1).drew)
    obtain ⟨wdd, hwdd⟩ : ∃ wn, wn = wz1.drew := ⟨_, rfl⟩
    rw [← hwdd] at B3 B7 RP RI RQ u_RP u_RI u_RQ s hcd ⊢
    clear hwdd hcq9
    refine blkStep (fun K HK => ?_)
    simp only [PK]
    go_wp2_with fail
    refine HK.out _ _ ?_
    clear HK K
    clear hcd
    refine oneStep (fun K HK => ?_)
    simp only [PK]
    go_wp2_with fail
    have hbs : w1.heap.size ≤ wdd.heap.size := s.x.size
    refine (s_AddRevocationK l _ (⟨wrap64 (z.tdiv 8), z.tmod 8, 50⟩ : Revc) _ (Own.rd _ RQ) (by omega)).mono ?_
    rintro e w4 ⟨vn, rfl, RN, hzq⟩
    replace B3 := Ext.block hzq B3
    replace B7 := Ext.block hzq B7
    replace RP := Own.ext RP hzq
    replace u_RP := Nat.le_trans u_RP hzq.size
    replace RI := Own.ext RI hzq
    replace u_RI := Nat.le_trans u_RI hzq.size
    replace RQ := Own.ext RQ hzq
    replace u_RQ := Nat.le_trans u_RQ hzq.size
    replace s := s.ext hzq
    have hn16 := addRev_le l (⟨wrap64 (z.tdiv 8), z.tmod 8, 50⟩ : Revc) hl16
    have u_RN := Nat.le_refl w4.heap.size
    have g_RN : g < wdd.heap.size := by have h1 := hgw; omega
    go_wp2_with fail
    refine HK.out _ _ hzq ?_
    clear HK K hzq
    refine blkStep (fun K HK => ?_)
    simp only [PK]
    go_wp2_with fail
    refine HK.out _ _ ?_
    clear HK K
    refine doneStep (by kernel_rfl) ?_
    go_wp2_with fail
    go_meet
    exact ⟨_, vn, _, _, rfl, hn16, g_RN, B3, B7, ⟨RP, u_RP⟩, ⟨RN, u_RN⟩, s.c, s.x⟩
  case rest =>
   have hc0z := s.c0
   clear s B3 B7 RP RI RQ u_RP u_RI u_RQ
   obtain ⟨m, vm, lo, hi, hv8, hm16, hglo, B3, B7, ⟨RP, u_RP⟩, ⟨RQ, u_RQ⟩, hcC, hcX⟩ := hcut
   obtain ⟨wz2, hwz⟩ : ∃ wz : World, wz = wc := ⟨_, rfl⟩
   subst hwz
   have s : DSt g cv code w1 wz2 := ⟨hcC, hcX, hc0z⟩
   clear hcC hcX hc0z
   replace hv8 := hv8.symm
   subst hv8
   clear hbo
   try clear g_RQ
   have g_RQ : g < lo := hglo
   have cb_B3 := blk1 B3
   have cb_B7 := blk1 B7
   go_upto_region 6 with (fail)
   clear cb_B3 cb_B7
   refine wp_region_fin (fun k => k = g ∨ k = w.heap.size) [([0, 1, 2], 3), ([4, 5], 6)] [7] [] (by kernel_rfl) (by kernel_rfl) (by kernel_rfl) ?_
   have ch_B7 := blk1 B7
   have q0 := ChgSW.cell (S := fun k => k = g ∨ k = w.heap.size) (ch_B7) (by first | (unfold at1; simp only; omega) | (simp only; omega))
   clear ch_B7
   simp only [wpBlocksX, pickOps, PK]
   have hch : Chg (fun k => k = g ∨ k = w.heap.size) wz2 wz2.drew := Chg.ofExt (Ext.refl wz2).drew
   replace B3 := Ext.block ((Ext.refl wz2).drew) B3
   replace B7 := Ext.block ((Ext.refl wz2).drew) B7
   replace RP := Own.ext RP ((Ext.refl wz2).drew)
   replace u_RP := Nat.le_trans u_RP ((Ext.refl wz2).drew).size
   replace RQ := Own.ext RQ ((Ext.refl wz2).drew)
   replace u_RQ := Nat.le_trans u_RQ ((Ext.refl wz2).drew).size
   replace s := s.ext ((Ext.refl wz2).drew)
   obtain ⟨wt, hnw⟩ : ∃ wn, wn = wz2.drew := ⟨_, rfl⟩
   rw [← hnw] at B3 B7 RP RQ u_RP u_RQ s hch ⊢
   clear hnw
   repeat (first | go_big_quiet_step (fail) | quiet_step (fail))
   refine wpQuiet_nil ?_
   go_wp2_with fail
   refine (s_l1Below g (10) _ _ _ s.c).mono ?_
   rintro e w4 ⟨nw, rfl, hnw0, hnw1, hcq, hzq⟩
   replace B3 := hzq.blkS B3 (by unfold at1; omega)
   replace B7 := hzq.blkS B7 (by unfold at1; omega)
   replace RP := Own.at1g RP hzq (.inl g_RP)
   replace u_RP := Nat.le_trans u_RP hzq.size
   replace RQ := Own.at1g RQ hzq (.inl g_RQ)
   replace u_RQ := Nat.le_trans u_RQ hzq.size
   replace s := s.draw hcq hzq
   replace hch := hch.trans (hzq.mono (fun b h => .inl h))
   clear hzq hcq
   go_wp2_with fail
   refine ⟨⟨⟨_, hch⟩, rfl⟩, ?_⟩
   repeat (first | go_big_quiet_step (fail) | quiet_step (fail))
   refine wpQuiet_nil ?_
   have hxe := hx0.trans (hn1.ofCur s.x hgl)
   obtain ⟨wpa, hwa, hba, hca⟩ := set1 B3 (.slice op_ p.parts.length cp_)
   have HWa := Lib.hid hwa
   clear hwa
   have ff0 := fr_of B3 0
   have cb := blk1 B3
   go_wp2_with fail
   rw [← HWa.out]
   clear HWa cb ff0
   replace hch := hch.trans (hca.mono (fun b h => .inr h))
   refine ⟨⟨⟨_, hch⟩, rfl⟩, ?_⟩
   replace RP := Own.at1g RP hca (by omega)
   replace u_RP := Nat.le_trans u_RP hca.size
   replace RQ := Own.at1g RQ hca (by omega)
   replace u_RQ := Nat.le_trans u_RQ hca.size
   replace B7 := hca.blkS B7 (by unfold at1; omega)
   replace B3 := hba
   clear hba
   replace hxe := hxe.chg hca (fun i hi => by have h1 : i = w.heap.size := hi; omega)
   try clear hca
   repeat (first | go_big_quiet_step (fail) | quiet_step (fail))
   refine wpQuiet_nil ?_
   refine NoPanic.normal ?_
   clear hch q0
   have cr_B3 := blk1 B3
   have cr_B7 := blk1 B7
   have hwb := (hx0.trans hn1).size
   go_wp2_with fail
   refine bodyPost_ret (v := .tuple #[vm, .agg #[.slice op_ p.parts.length cp_], .int .i64 (45 + nw)]) (by simp [results, Tryz.results11, go_sem, cr_B3]) rfl ?_
   exact ⟨vm, _, m, p, 45 + nw, rfl, hm16, hp4, hx5, Own.rd _ RQ, Own.rd _ RP, hxe⟩

theorem varint_u8 : ∀ (k : Nat) (n : Int), 0 ≤ n → n.toNat ≤ k → ∀ y ∈ varint n, U8 y
 | k, n, h0, hk, y, hy => by
  by_cases hn : 128 ≤ n
  ·
   rw [varint_big hn] at hy
   rcases List.mem_cons.1 hy with h | h
   ·
    rw [h]; exact ⟨by omega, by omega⟩
   ·
    cases k with
    | zero => omega
    | succ k => exact varint_u8 k (n / 128) (by omega) (by omega) y h
  ·
   rw [varint_small (by omega)] at hy
   rw [List.mem_singleton.1 hy]; exact ⟨h0, by omega⟩
theorem encRev_u8 (x : Revc) : ∀ y ∈ encRev x, U8 y := by
 intro y hy
 unfold encRev at hy
 split at hy
 ·
  unfold encInts at hy
  obtain ⟨n, _, h2⟩ := List.mem_flatMap.1 hy
  unfold varOf at h2
  split at h2
  ·
   rename_i h3; exact varint_u8 n.toNat n h3.1 (Nat.le_refl _) y h2
  ·
   cases h2
 ·
  cases hy
theorem encRev_small (x : Revc) : (encRev x).length ≤ 18 := by
 unfold encRev
 split
 ·
  have := encInts_len [x.asn, x.iface, x.till]
  simp at this; omega
 ·
  simp
theorem keep_takeB {S : Nat → Prop} {w : World} {b off c : Nat} {l : List Int} (h : (Own.keep Rep.byte).own S w (.slice (some ⟨b, off, none⟩) l.length c) l) {k : Nat} (hk : k ≤ l.length) : (Own.keep Rep.byte).own S w (.slice (some ⟨b, off, none⟩) k c) (l.take k) := fun w' x => by
 have h1 := (h w' x).part 0 k (Nat.zero_le _) hk
 simpa only [Nat.zero_mul, Nat.add_zero, Nat.sub_zero, List.drop_zero] using h1
theorem keepB {base : Nat} {w : World} {v : Value} {l : List Int} {e : TypeId} (ho : OwnF byteF 1 base e w v l) : (Own.keep Rep.byte).own (rng base w.heap.size) w v l := Own.toKeep (Own.ofFr (hf := byteFlen) ho (Nat.le_refl _))

set_option maxRecDepth 100000 in
set_option maxHeartbeats 16000000 in
theorem s_l1Bent (g : Nat)  (b : List Int) (vb cv : Value) (cd : List Int) (w : World) (hc : Cur g cv cd w) (rb : St g Rep.byte w vb b) (hbl : b.length ≤ 1000) (hbu : ∀ x ∈ b, U8 x) :
  Calls Tryz.prog 88 #[.pointer (some ⟨g, 0, none⟩), vb] w fun e w' => ∃ (v : Value) (l : List Int), e = .returned v ∧ l.length ≤ 1001 ∧ (∀ x ∈ l, U8 x) ∧ (Own.keep Rep.byte).own (rng w.heap.size w'.heap.size) w' v l ∧ Cur g cv cd w' ∧ Chg (at1 g) w w' := by
 obtain ⟨EB⟩ := elemByte
 obtain ⟨o_b, c_b, rfl, _⟩ := rb.rd.shape
 have hvb := rb.rd
 have hgw := hc.lt
 have s : DSt g cv cd w w := ⟨hc.ext (Ext.refl w), Chg.ofExt (Ext.refl w), hc⟩
 go_enter Tryz.func88, Tryz.ntmps88
 go_wp2_with (at_builtin; refine appS EB byteFlen byteOne rfl _ _ rfl b rfl (OwnF.empty byteF 1 w.heap.size 5 w (Nat.le_refl _)) rfl (hvb.ext ((Ext.refl _).alloc _)) (by simp; omega) (by simp [maxLen]; omega) (by simp) ?_)
 intro v' w1 ho hg'
 have hxq : Ext w w1 := ((Ext.refl w).alloc _).app hg' (OwnF.empty byteF 1 w.heap.size 5 w (Nat.le_refl _)) (Nat.le_refl _)
 try rw [List.nil_append] at ho
 clear hg' hvb
 replace s := s.ext hxq
 have RB : (Own.flat byteF 1 byteFlen 5).own (rng w.heap.size w1.heap.size) w1 v' b := Own.ofFr (hf := byteFlen) ho (Nat.le_refl _)
 have g_RB : g < w.heap.size := hgw
 have u_RB := Nat.le_refl w1.heap.size
 clear hxq ho
 obtain ⟨o_q, c_q, rfl, _⟩ := (Own.rd _ RB).shape
 go_wp2_with fail
 refine (s_l1Below g (6) _ _ _ s.c).mono ?_
 rintro e w2 ⟨n, rfl, hn0, hn1, hcq, hzq⟩
 replace RB := Own.at1g RB hzq (.inl g_RB)
 replace u_RB := Nat.le_trans u_RB hzq.size
 replace s := s.draw hcq hzq
 clear hzq hcq
 by_cases h0 : n = 0
 ·
  have h01 : (n == 0) = true := by rw [beq_iff_eq]; exact h0
  clear h0 hn0 hn1
  by_cases hb0 : 0 < b.length
  ·
   have hb1 : (0 : Int) < (b.length : Int) := by omega
   go_wp2_with fail
   refine (s_l1Below g (b.length : Int) _ _ _ s.c).mono ?_
   rintro e w3 ⟨kk, rfl, hk0, hk1, hcq, hzq⟩
   replace RB := Own.at1g RB hzq (.inl g_RB)
   replace u_RB := Nat.le_trans u_RB hzq.size
   replace s := s.draw hcq hzq
   clear hzq hcq
   obtain ⟨k, rfl⟩ := Int.eq_ofNat_of_zero_le hk0
   have hk : k < b.length := by omega
   clear hk0 hk1
   go_wp2_with fail
   refine (s_l1Below g (256) _ _ _ s.c).mono ?_
   rintro e w4 ⟨x, rfl, hx0, hx1, hcq, hzq⟩
   replace RB := Own.at1g RB hzq (.inl g_RB)
   replace u_RB := Nat.le_trans u_RB hzq.size
   replace s := s.draw hcq hzq
   clear hzq hcq
   have oF := Own.toF RB
   obtain ⟨gb, cb, hshv, hbg, hgs⟩ := oF.some_shape hb0
   cases hshv
   have hcell := bytes_own_at oF k hk
   have hfr := oF.free k
   have hkk : (k : Int) < (b.length : Int) := by omega
   have hx255 : x ≤ 255 := by omega
   obtain ⟨ow, gw⟩ := bytes_own_set oF k x
   go_wp2_with fail
   replace s := s.put (Chg.ofGrown (S := fun q => q = gb) gw (fun q hq => by cases hq; rfl)) (fun i hi => by have h1 : i = gb := hi; omega)
   have hl9 : (b.set k x).length ≤ 1001 := by simp; omega
   have hu9 : ∀ y ∈ b.set k x, U8 y := fun y hy => by
    rcases List.mem_or_eq_of_mem_set hy with h | h
    ·
     exact hbu y h
    ·
     rw [h]; exact ⟨hx0, hx255⟩
   go_ret
   first | exact ⟨_, rfl, b.set k x, hl9, hu9, keepB ow, s.c, s.x⟩ | exact ⟨_, b.set k x, rfl, hl9, hu9, keepB ow, s.c, s.x⟩
  ·
   have hb1 : ¬ (0 : Int) < (b.length : Int) := by omega
   go_wp2_with fail
   go_ret
   first | exact ⟨_, b, rfl, (by omega), hbu, Own.upTo (Own.toKeep RB) (Nat.le_refl _), s.c, s.x⟩ | exact ⟨_, rfl, b, (by omega), hbu, Own.upTo (Own.toKeep RB) (Nat.le_refl _), s.c, s.x⟩
 ·
  have h01 : (n == 0) = false := by rw [beq_eq_false_iff_ne]; exact h0
  clear h0
  by_cases h0 : n = 1
  ·
   have h11 : (n == 1) = true := by rw [beq_iff_eq]; exact h0
   clear h0 hn0 hn1
   go_wp2_with fail
   refine (s_l1Below g ((b.length : Int) + 1) _ _ _ s.c).mono ?_
   rintro e w3 ⟨kk, rfl, hk0, hk1, hcq, hzq⟩
   replace RB := Own.at1g RB hzq (.inl g_RB)
   replace u_RB := Nat.le_trans u_RB hzq.size
   replace s := s.draw hcq hzq
   clear hzq hcq
   obtain ⟨k, rfl⟩ := Int.eq_ofNat_of_zero_le hk0
   have hk : k ≤ b.length := by omega
   obtain ⟨_, _, hq9, hcap9, hmax9, hnil9, _⟩ := Own.rd _ RB
   cases hq9
   have hkc : (k : Int) ≤ (c_q : Int) := by omega
   have hkd : k ≤ c_q := by omega
   clear hk0 hk1
   obtain ⟨_, oq2⟩ := Own.toF RB
   rcases oq2 with ⟨oq2, _⟩ | ⟨gb, cp9, cu9, oq2, _, _, _⟩
   ·
    injection oq2 with e1 e2 e3
    subst e1
    subst e3
    obtain rfl : k = 0 := by omega
    obtain rfl : b = [] := List.eq_nil_of_length_eq_zero e2
    clear e2 hk
    go_wp2_with fail
    go_ret
    first | exact ⟨_, [], rfl, (by simp), (by simp), (fun w9 _ => RdS.nil _ w9), s.c, s.x⟩ | exact ⟨_, rfl, [], (by simp), (by simp), (fun w9 _ => RdS.nil _ w9), s.c, s.x⟩
   ·
    injection oq2 with e1 e2 e3
    subst e1
    clear e2 e3
    have RT := keep_takeB (Own.toKeep RB) hk
    go_wp2_with fail
    go_ret
    first | exact ⟨_, (b.take k), rfl, (by simp; omega), (fun y hy => hbu y (List.mem_of_mem_take hy)), Own.upTo RT (Nat.le_refl _), s.c, s.x⟩ | exact ⟨_, rfl, (b.take k), (by simp; omega), (fun y hy => hbu y (List.mem_of_mem_take hy)), Own.upTo RT (Nat.le_refl _), s.c, s.x⟩
  ·
   have h11 : (n == 1) = false := by rw [beq_eq_false_iff_ne]; exact h0
   clear h0
   by_cases h0 : n = 2
   ·
    have h21 : (n == 2) = true := by rw [beq_iff_eq]; exact h0
    clear h0 hn0 hn1
    go_wp2_with fail
    refine (s_l1Int g [0, 1, 128, 255] _ _ _ s.c (by decide) (by decide)).mono ?_
    rintro e w3 ⟨r, rfl, hr0, hcq, hzq⟩
    replace RB := Own.at1g RB hzq (.inl g_RB)
    replace u_RB := Nat.le_trans u_RB hzq.size
    replace s := s.draw hcq hzq
    clear hzq hcq
    have hr255 : 0 ≤ r ∧ r ≤ 255 := by
     simp only [List.mem_cons, List.not_mem_nil, or_false] at hr0
     omega
    obtain ⟨hrl, hrh⟩ := hr255
    clear hr0
    have oF := Own.toF RB
    have hwz := s.x.size
    go_wp2_with (at_builtin; refine app1 EB byteFlen byteOne rfl _ _ rfl r rfl (OwnF.ext oF ((Ext.refl _).alloc _)) rfl (by exact blk_list (byteF r) (blk_new w3 _)) (by omega) (by unfold maxLen; omega) (by simp; omega) ?_)
    intro v9 w9 ho9 hg9
    have hx9 : Ext w3 (w3.alloc (.cells #[.int .u8 r] 5)) := (Ext.refl _).alloc _
    replace s := (s.ext hx9).put (Chg.ofGrown (S := fun q => w.heap.size ≤ q) hg9 (fun q hq => (oF.block q hq).1)) (fun i hi => hi)
    clear hg9 hx9
    have hu9 : ∀ y ∈ b ++ [r], U8 y := fun y hy => by
     rcases List.mem_append.1 hy with h | h
     ·
      exact hbu y h
     ·
      rw [List.mem_singleton.1 h]; exact ⟨hrl, hrh⟩
    have hl9 : (b ++ [r]).length ≤ 1001 := by simp; omega
    go_wp2_with fail
    go_ret
    first | exact ⟨_, (b ++ [r]), rfl, hl9, hu9, keepB ho9, s.c, s.x⟩ | exact ⟨_, rfl, (b ++ [r]), hl9, hu9, keepB ho9, s.c, s.x⟩
   ·
    have h21 : (n == 2) = false := by rw [beq_eq_false_iff_ne]; exact h0
    go_wp2_with fail
    go_ret
    first | exact ⟨_, b, rfl, (by omega), hbu, Own.upTo (Own.toKeep RB) (Nat.le_refl _), s.c, s.x⟩ | exact ⟨_, rfl, b, (by omega), hbu, Own.upTo (Own.toKeep RB) (Nat.le_refl _), s.c, s.x⟩

set_option maxRecDepth 100000 in
set_option maxHeartbeats 8000000 in
theorem s_DrawDecodeRevocation (code : List Int) (cv : Value) (w : World) (hr : RdS Rep.byte w cv code) (hu : ∀ x ∈ code, U8 x) (hl : code.length ≤ 1048576) :
  Calls Tryz.prog 14 #[cv] w fun e w' => ∃ (v : Value) (l : List Int), e = .returned v ∧ l.length ≤ 1001 ∧ (∀ x ∈ l, U8 x) ∧ RdS Rep.byte w' v l ∧ Ext w w' := by
 have hx0 := Ext.refl w
 go_enter Tryz.func14, Tryz.ntmps14
 go_wp2_with fail
 refine (s_l1New code _ _ (hr.ext hx0) hu hl).mono ?_
 rintro e w1 ⟨g, rfl, hgl, hc1, hn1⟩
 have hgw := hc1.lt
 have s : DSt g cv code w1 w1 := ⟨hc1, Chg.refl _ _, hc1⟩
 clear hc1
 go_wp2_with fail
 refine (s_l31Note g _ _ _ s.c).mono ?_
 rintro e w2 ⟨x, rfl, hcq, hzq⟩
 replace s := s.draw hcq hzq
 clear hzq hcq
 go_wp2_with fail
 have hbs : w1.heap.size ≤ w2.heap.size := s.x.size
 refine (s_EncodeRevocation x _).mono ?_
 rintro e w3 ⟨vE, rfl, OE, hzq⟩
 replace s := s.ext hzq
 have RE : (Own.keep Rep.byte).own (rng w2.heap.size w3.heap.size) w3 vE (encRev x) := keepB OE
 have hel := encRev_small x
 have heu := encRev_u8 x
 clear OE
 have g_RE : g < w2.heap.size := by omega
 have u_RE : w3.heap.size ≤ w3.heap.size := by omega
 clear hzq hbs 
 go_wp2_with fail
 have hbs : w1.heap.size ≤ w3.heap.size := s.x.size
 refine (s_l1Bent g (encRev x) _ _ _ _ s.c (Own.stR RE (.inl g_RE)) (by omega) heu).mono ?_
 rintro e w4 ⟨v, l, rfl, hl9, hu9, RB, hcq, hzq⟩
 replace RE := Own.at1g RE hzq (.inl g_RE)
 replace u_RE := Nat.le_trans u_RE hzq.size
 replace s := s.draw hcq hzq
 have g_RB : g < w3.heap.size := by omega
 have u_RB : w4.heap.size ≤ w4.heap.size := by omega
 clear hzq hcq hbs 
 have hxe := hx0.trans (hn1.ofCur s.x hgl)
 go_wp2_with fail
 go_ret
 exact ⟨v, l, rfl, hl9, hu9, Own.rd _ RB, hxe⟩

end Go.Proofs.YtcpfmhgfaliemaaGreat
