/- The draws of the code: parts of segments. No condition. -/
import Derived.Test.YtikbeiafobnblaaKQxW21m
import Derived.Test.YtikbeiafobnblaaKQ53
import Derived.Test.YtikbeiafobnblaaKQ54
import Derived.Test.YtikbeiafobnblaaKQ55
namespace Go.Proofs.Ytikbeiafobnblaa
open Go.ChangeShapes Go.WideShapes Go.ChangeAt Go.RowKit Go.Deep

theorem s_l1IntP (g : Nat) (l : List Int) (va v : Value) (code : List Int) (w : World) (hc : Cur g v code w) (hs : St g Rep.int w va l) (hl : 0 < l.length) (hm : l.length ≤ 1048576) :
  Calls Try.prog 117 #[.pointer (some ⟨g, 0, none⟩), va] w fun e w' => ∃ r : Int, e = .returned (.int .i64 r) ∧ r ∈ l ∧ Cur g v code w' ∧ Chg (at1 g) w w' := by
 obtain ⟨o, cap, rfl, _⟩ := hs.rd.shape
 go_enter Try.func117, Try.ntmps117
 go_wp2_with fail
 refine (s_l1Below g l.length v code _ hc).mono ?_
 rintro e w1 ⟨x, rfl, hx0, hx1, hc1, hz1⟩
 obtain ⟨k, rfl⟩ := Int.eq_ofNat_of_zero_le hx0
 have hk : k < l.length := by omega
 clear hx1
 obtain ⟨b, off, rfl, hcell⟩ := ints_at (hs.step hz1).rd k hk
 go_wp2_with fail
 go_ret
 exact ⟨_, rfl, List.getElem_mem hk, hc1, hz1⟩

set_option maxRecDepth 100000 in
set_option maxHeartbeats 20000000 in
theorem s_DrawMakePart (code : List Int) (cv : Value) (w : World) (hr : RdS Rep.byte w cv code) (hu : ∀ x ∈ code, U8 x) (hl : code.length ≤ 1048576) :
  Calls Try.prog 28 #[cv] w fun e w' => ∃ (v : Value) (a : Seg) (kd k : Int), e = .returned (.tuple #[.agg #[.int .i64 a.ts, .int .i64 a.beta, v], .int .i64 kd, .int .i64 k]) ∧ a.hops.length ≤ 5 ∧ RdS Hop.rep w' v a.hops ∧ Ext w w' := by
 have hx0 : Ext w (w.alloc (.cells #[.int .i64 0, .int .i64 0, .slice none 0 0] 60)) := (Ext.refl _).alloc _
 have HB := blk_new w (.cells #[.int .i64 0, .int .i64 0, .slice none 0 0] 60)
 go_enter Try.func28, Try.ntmps28
 go_wp2_with fail
 refine (s_l1New code _ _ (hr.ext hx0) hu hl).mono ?_
 rintro e w1 ⟨g, rfl, hgl, hc1, hn1⟩
 have hgw := hc1.lt
 have s : DSt g cv code w1 w1 := ⟨hc1, Chg.refl _ _, hc1⟩
 have B2 := Ext.block hn1 HB
 have hgr : w.heap.size < g := by simp at hgl; omega
 clear HB
 clear hc1
 have cb_B2 := blk3 B2
 go_wp2_with fail
 clear cb_B2
 have hbs : w1.heap.size ≤ w1.heap.size := s.x.size
 have ltq_B2 : w.heap.size < w1.heap.size := blk_lt B2
 refine (s_l9Any g _ _ _ s.c).mono ?_
 rintro e w2 ⟨v1, v2, va, t, a, rfl, TK, hl5, OA, OL, OH, hcq, hzq⟩
 replace B2 := hzq.blkS B2 (by unfold at1; omega)
 replace s := s.draw hcq hzq
 have RA : (Own.keep ASd.rep).own (rng w1.heap.size w2.heap.size) w2 v1 t.ases := Own.toKeep (Own.ofFr (hf := ASd.flen) OA (Nat.le_refl _))
 clear OA
 have RL : (Own.keep Lnk.rep).own (rng w1.heap.size w2.heap.size) w2 v2 t.links := Own.toKeep (Own.ofFr (hf := Lnk.flen) OL (Nat.le_refl _))
 clear OL
 have RH : (Own.keep Hop.rep).own (rng w1.heap.size w2.heap.size) w2 va a.hops := Own.toKeep (Own.ofFr (hf := Hop.flen) OH (Nat.le_refl _))
 clear OH
 obtain ⟨o1, c1, rfl, _⟩ := RdS.shape (Own.rd _ RA)
 obtain ⟨o2, c2, rfl, _⟩ := RdS.shape (Own.rd _ RL)
 obtain ⟨o_a, c_a, rfl, _⟩ := RdS.shape (Own.rd _ RH)
 clear RA RL
 have g_RH : g < w1.heap.size := by omega
 have u_RH : w2.heap.size ≤ w2.heap.size := by omega
 have lt_B2_RH : w.heap.size < w1.heap.size := by omega
 clear hzq hcq hbs ltq_B2
 have cb_B2 := blk3 B2
 go_upto_region 3 with (fail)
 clear cb_B2
 have hxa := ext2 w2 (.cells #[.slice o1 t.ases.length c1, .slice o2 t.links.length c2] 41) (.cells #[.int .i64 a.ts, .int .i64 a.beta, .slice o_a a.hops.length c_a] 60)
 have BB := al2 w2 (.cells #[.slice o1 t.ases.length c1, .slice o2 t.links.length c2] 41) (.cells #[.int .i64 a.ts, .int .i64 a.beta, .slice o_a a.hops.length c_a] 60)
 obtain ⟨b6, eb6⟩ : ∃ b, b = w2.heap.size := ⟨_, rfl⟩
 have ltw_b6 : w1.heap.size ≤ b6 := by rw [eb6]; exact s.x.size
 have lt_B2_b6 : w.heap.size < b6 := by rw [eb6]; exact blk_lt B2
 have hb_RH_b6 : w2.heap.size ≤ b6 := by rw [eb6]; exact u_RH
 replace B2 := Ext.block hxa B2
 replace RH := Own.ext RH hxa
 replace u_RH := Nat.le_trans u_RH hxa.size
 replace s := s.ext hxa
 have B6 := BB.1
 have B7 := BB.2
 rw [← eb6] at B6 B7
 rw [← eb6]
 clear hxa BB
 generalize ((w2.alloc (.cells #[.slice o1 t.ases.length c1, .slice o2 t.links.length c2] 41)).alloc (.cells #[.int .i64 a.ts, .int .i64 a.beta, .slice o_a a.hops.length c_a] 60)) = wa at B2 B6 B7 RH u_RH s ⊢
 clear eb6
 clear B6
 replace B2 := Ext.block ((Ext.refl wa).drew) B2
 replace B7 := Ext.block ((Ext.refl wa).drew) B7
 replace RH := Own.ext RH ((Ext.refl wa).drew)
 replace u_RH := Nat.le_trans u_RH ((Ext.refl wa).drew).size
 replace s := s.ext ((Ext.refl wa).drew)
 refine planStep (.blk [1, 3] (.tri 0 2 4 (.two 2 4 (.one 4 (.one 5 (.one 6 (.blk [7, 8] .done)))) (.one 2 (.one 5 (.one 6 (.blk [7, 8] .done))))) (.two 0 4 (.one 4 (.one 5 (.one 6 (.blk [7, 8] .done)))) (.two 0 5 (.one 5 (.one 6 (.blk [7, 8] .done))) (.one 0 (.one 6 (.blk [7, 8] .done))))) (.two 0 2 (.one 2 (.one 5 (.one 6 (.blk [7, 8] .done)))) (.two 0 5 (.one 5 (.one 6 (.blk [7, 8] .done))) (.one 0 (.one 6 (.blk [7, 8] .done))))))) [2, 5, 6] (by kernel_rfl) (by kernel_rfl) ?_
 generalize wa.drew = wdd at B2 B7 RH u_RH s ⊢
 refine blkStep (fun K HK => ?_)
 simp only [PK]
 go_wp2_with fail
 refine HK.out _ _ ?_
 clear HK K
 refine triStep ?_ ?_ ?_
 ·
  have cB := blk3 B7
  refine oneStep (fun K HK => ?_)
  simp only [PK]
  go_wp2_with fail
  refine HK.out _ _ (Ext.refl _) ?_
  clear HK K cB
  refine twoStep ?_ ?_
  ·
   refine badStep (by kernel_rfl) (fun K HK => ?_)
   simp only [PK]
   go_wp2_with fail
   refine (s_l1Below g (6) _ _ _ s.c).mono ?_
   rintro e w3 ⟨na, rfl, hna0, hna1, hcq, hzq⟩
   replace B2 := hzq.blkS B2 (by unfold at1; omega)
   replace B7 := hzq.blkS B7 (by unfold at1; omega)
   replace RH := Own.at1g RH hzq (.inl g_RH)
   replace u_RH := Nat.le_trans u_RH hzq.size
   replace s := s.draw hcq hzq
   clear hzq hcq
   go_wp2_with fail
   refine HK.out _ _ ?_
   clear HK K
   have hgl8 : g < w3.heap.size := s.c.lt
   have RI : (Own.keep Rep.int).own (rng w3.heap.size (w3.alloc (.cells #[.int .i64 0, .int .i64 0, .int .i64 1, .int .i64 2, .int .i64 (-1), .int .i64 9] 3)).heap.size) (w3.alloc (.cells #[.int .i64 0, .int .i64 0, .int .i64 1, .int .i64 2, .int .i64 (-1), .int .i64 9] 3)) (.slice (some ⟨w3.heap.size, 0, none⟩) 6 6) [0, 0, 1, 2, -1, 9] := Own.toKeep (Own.ofFr (hf := intFlen) (OwnF.lit intFlen w3.heap.size 3 w3 [0, 0, 1, 2, -1, 9] (Nat.le_refl _) (by simp [maxLen])) (Nat.le_refl _))
   have hx8 : Ext w3 (w3.alloc (.cells #[.int .i64 0, .int .i64 0, .int .i64 1, .int .i64 2, .int .i64 (-1), .int .i64 9] 3)) := (Ext.refl _).alloc _
   have g_RI : g < w3.heap.size := hgl8
   have u_RI := Nat.le_refl (w3.alloc (.cells #[.int .i64 0, .int .i64 0, .int .i64 1, .int .i64 2, .int .i64 (-1), .int .i64 9] 3)).heap.size
   refine oneStep (fun K HK => ?_)
   simp only [PK]
   go_wp2_with fail
   refine HK.out _ _ hx8 ?_
   clear HK K
   replace B2 := Ext.block hx8 B2
   replace B7 := Ext.block hx8 B7
   replace RH := Own.ext RH hx8
   replace u_RH := Nat.le_trans u_RH hx8.size
   replace s := s.ext hx8
   generalize w3.alloc (.cells #[.int .i64 0, .int .i64 0, .int .i64 1, .int .i64 2, .int .i64 (-1), .int .i64 9] 3) = w8 at B2 B7 RH RI u_RH u_RI s ⊢
   clear hx8
   refine badStep (by kernel_rfl) (fun K HK => ?_)
   simp only [PK]
   go_wp2_with fail
   refine (s_l1IntP g [0, 0, 1, 2, -1, 9] _ _ _ _ s.c (Own.stR RI (.inl g_RI)) (by decide) (by decide)).mono ?_
   rintro e w4 ⟨cq9, rfl, hcq9, hcq, hzq⟩
   replace B2 := hzq.blkS B2 (by unfold at1; omega)
   replace B7 := hzq.blkS B7 (by unfold at1; omega)
   replace RH := Own.at1g RH hzq (.inl g_RH)
   replace u_RH := Nat.le_trans u_RH hzq.size
   replace RI := Own.at1g RI hzq (.inl g_RI)
   replace u_RI := Nat.le_trans u_RI hzq.size
   replace s := s.draw hcq hzq
   clear hcq9
   clear hzq hcq
   go_wp2_with fail
   refine HK.out _ _ ?_
   clear HK K
   have hxe := hx0.trans (hn1.ofCur s.x hgl)
   obtain ⟨wpa, hwa, hba, hca⟩ := three_set B2 (.int .i64 a.ts) (.int .i64 a.beta) (.slice o_a a.hops.length c_a)
   have HWa := Lib.hid hwa
   clear hwa
   have ff0 := fr_of B2 0
   have ff1 := fr_of B2 1
   have ff2 := fr_of B2 2
   have cb_B2 := blk3 B2
   have cb_B7 := blk3 B7
   refine badStep (by kernel_rfl) (fun K HK => ?_)
   simp only [PK]
   go_wp2_with fail
   refine HK.out _ _ ?_
   clear HK K
   clear cb_B2 cb_B7
   rw [← HWa.out]
   clear HWa ff0 ff1 ff2
   replace RH := Own.at1g RH hca (by omega)
   replace u_RH := Nat.le_trans u_RH hca.size
   replace RI := Own.at1g RI hca (by omega)
   replace u_RI := Nat.le_trans u_RI hca.size
   replace B7 := hca.blkS B7 (by unfold at1; omega)
   replace B2 := hba
   clear hba
   replace hxe := hxe.chg hca (fun i hi => by have h1 : i = w.heap.size := hi; omega)
   try clear hca
   refine blkStep (fun K HK => ?_)
   simp only [PK]
   go_wp2_with fail
   refine HK.out _ _ ?_
   clear HK K
   refine doneStep (by kernel_rfl) ?_
   have cr_B2 := blk3 B2
   have cr_B7 := blk3 B7
   have hwb := (hx0.trans hn1).size
   go_wp2_with fail
   refine bodyPost_ret (v := .tuple #[.agg #[.int .i64 a.ts, .int .i64 a.beta, .slice o_a a.hops.length c_a], .int .i64 na, .int .i64 cq9]) (by simp [results, Try.results28, go_sem, cr_B2]) rfl ?_
   exact ⟨_, a, na, cq9, rfl, hl5, Own.rd _ RH, hxe⟩
  ·
   have hgl8 : g < wdd.heap.size := s.c.lt
   have RI : (Own.keep Rep.int).own (rng wdd.heap.size (wdd.alloc (.cells #[.int .i64 0, .int .i64 0, .int .i64 1, .int .i64 2, .int .i64 (-1), .int .i64 9] 3)).heap.size) (wdd.alloc (.cells #[.int .i64 0, .int .i64 0, .int .i64 1, .int .i64 2, .int .i64 (-1), .int .i64 9] 3)) (.slice (some ⟨wdd.heap.size, 0, none⟩) 6 6) [0, 0, 1, 2, -1, 9] := Own.toKeep (Own.ofFr (hf := intFlen) (OwnF.lit intFlen wdd.heap.size 3 wdd [0, 0, 1, 2, -1, 9] (Nat.le_refl _) (by simp [maxLen])) (Nat.le_refl _))
   have hx8 : Ext wdd (wdd.alloc (.cells #[.int .i64 0, .int .i64 0, .int .i64 1, .int .i64 2, .int .i64 (-1), .int .i64 9] 3)) := (Ext.refl _).alloc _
   have g_RI : g < wdd.heap.size := hgl8
   have u_RI := Nat.le_refl (wdd.alloc (.cells #[.int .i64 0, .int .i64 0, .int .i64 1, .int .i64 2, .int .i64 (-1), .int .i64 9] 3)).heap.size
   refine oneStep (fun K HK => ?_)
   simp only [PK]
   go_wp2_with fail
   refine HK.out _ _ hx8 ?_
   clear HK K
   replace B2 := Ext.block hx8 B2
   replace B7 := Ext.block hx8 B7
   replace RH := Own.ext RH hx8
   replace u_RH := Nat.le_trans u_RH hx8.size
   replace s := s.ext hx8
   generalize wdd.alloc (.cells #[.int .i64 0, .int .i64 0, .int .i64 1, .int .i64 2, .int .i64 (-1), .int .i64 9] 3) = w8 at B2 B7 RH RI u_RH u_RI s ⊢
   clear hx8
   refine badStep (by kernel_rfl) (fun K HK => ?_)
   simp only [PK]
   go_wp2_with fail
   refine (s_l1Below g (6) _ _ _ s.c).mono ?_
   rintro e w3 ⟨na, rfl, hna0, hna1, hcq, hzq⟩
   replace B2 := hzq.blkS B2 (by unfold at1; omega)
   replace B7 := hzq.blkS B7 (by unfold at1; omega)
   replace RH := Own.at1g RH hzq (.inl g_RH)
   replace u_RH := Nat.le_trans u_RH hzq.size
   replace RI := Own.at1g RI hzq (.inl g_RI)
   replace u_RI := Nat.le_trans u_RI hzq.size
   replace s := s.draw hcq hzq
   clear hzq hcq
   go_wp2_with fail
   refine HK.out _ _ ?_
   clear HK K
   refine badStep (by kernel_rfl) (fun K HK => ?_)
   simp only [PK]
   go_wp2_with fail
   refine (s_l1IntP g [0, 0, 1, 2, -1, 9] _ _ _ _ s.c (Own.stR RI (.inl g_RI)) (by decide) (by decide)).mono ?_
   rintro e w4 ⟨cq9, rfl, hcq9, hcq, hzq⟩
   replace B2 := hzq.blkS B2 (by unfold at1; omega)
   replace B7 := hzq.blkS B7 (by unfold at1; omega)
   replace RH := Own.at1g RH hzq (.inl g_RH)
   replace u_RH := Nat.le_trans u_RH hzq.size
   replace RI := Own.at1g RI hzq (.inl g_RI)
   replace u_RI := Nat.le_trans u_RI hzq.size
   replace s := s.draw hcq hzq
   clear hcq9
   clear hzq hcq
   go_wp2_with fail
   refine HK.out _ _ ?_
   clear HK K
   have hxe := hx0.trans (hn1.ofCur s.x hgl)
   obtain ⟨wpa, hwa, hba, hca⟩ := three_set B2 (.int .i64 a.ts) (.int .i64 a.beta) (.slice o_a a.hops.length c_a)
   have HWa := Lib.hid hwa
   clear hwa
   have ff0 := fr_of B2 0
   have ff1 := fr_of B2 1
   have ff2 := fr_of B2 2
   have cb_B2 := blk3 B2
   have cb_B7 := blk3 B7
   refine badStep (by kernel_rfl) (fun K HK => ?_)
   simp only [PK]
   go_wp2_with fail
   refine HK.out _ _ ?_
   clear HK K
   clear cb_B2 cb_B7
   rw [← HWa.out]
   clear HWa ff0 ff1 ff2
   replace RH := Own.at1g RH hca (by omega)
   replace u_RH := Nat.le_trans u_RH hca.size
   replace RI := Own.at1g RI hca (by omega)
   replace u_RI := Nat.le_trans u_RI hca.size
   replace B7 := hca.blkS B7 (by unfold at1; omega)
   replace B2 := hba
   clear hba
   replace hxe := hxe.chg hca (fun i hi => by have h1 : i = w.heap.size := hi; omega)
   try clear hca
   refine blkStep (fun K HK => ?_)
   simp only [PK]
   go_wp2_with fail
   refine HK.out _ _ ?_
   clear HK K
   refine doneStep (by kernel_rfl) ?_
   have cr_B2 := blk3 B2
   have cr_B7 := blk3 B7
   have hwb := (hx0.trans hn1).size
   go_wp2_with fail
   refine bodyPost_ret (v := .tuple #[.agg #[.int .i64 a.ts, .int .i64 a.beta, .slice o_a a.hops.length c_a], .int .i64 na, .int .i64 cq9]) (by simp [results, Try.results28, go_sem, cr_B2]) rfl ?_
   exact ⟨_, a, na, cq9, rfl, hl5, Own.rd _ RH, hxe⟩
 ·
  refine badStep (by kernel_rfl) (fun K HK => ?_)
  simp only [PK]
  go_wp2_with fail
  refine (s_l1Below g (6) _ _ _ s.c).mono ?_
  rintro e w3 ⟨na, rfl, hna0, hna1, hcq, hzq⟩
  replace B2 := hzq.blkS B2 (by unfold at1; omega)
  replace B7 := hzq.blkS B7 (by unfold at1; omega)
  replace RH := Own.at1g RH hzq (.inl g_RH)
  replace u_RH := Nat.le_trans u_RH hzq.size
  replace s := s.draw hcq hzq
  clear hzq hcq
  go_wp2_with fail
  refine HK.out _ _ ?_
  clear HK K
  refine twoStep ?_ ?_
  ·
   have cB := blk3 B7
   refine oneStep (fun K HK => ?_)
   simp only [PK]
   go_wp2_with fail
   refine HK.out _ _ (Ext.refl _) ?_
   clear HK K cB
   have hgl8 : g < w3.heap.size := s.c.lt
   have RI : (Own.keep Rep.int).own (rng w3.heap.size (w3.alloc (.cells #[.int .i64 0, .int .i64 0, .int .i64 1, .int .i64 2, .int .i64 (-1), .int .i64 9] 3)).heap.size) (w3.alloc (.cells #[.int .i64 0, .int .i64 0, .int .i64 1, .int .i64 2, .int .i64 (-1), .int .i64 9] 3)) (.slice (some ⟨w3.heap.size, 0, none⟩) 6 6) [0, 0, 1, 2, -1, 9] := Own.toKeep (Own.ofFr (hf := intFlen) (OwnF.lit intFlen w3.heap.size 3 w3 [0, 0, 1, 2, -1, 9] (Nat.le_refl _) (by simp [maxLen])) (Nat.le_refl _))
   have hx8 : Ext w3 (w3.alloc (.cells #[.int .i64 0, .int .i64 0, .int .i64 1, .int .i64 2, .int .i64 (-1), .int .i64 9] 3)) := (Ext.refl _).alloc _
   have g_RI : g < w3.heap.size := hgl8
   have u_RI := Nat.le_refl (w3.alloc (.cells #[.int .i64 0, .int .i64 0, .int .i64 1, .int .i64 2, .int .i64 (-1), .int .i64 9] 3)).heap.size
   refine oneStep (fun K HK => ?_)
   simp only [PK]
   go_wp2_with fail
   refine HK.out _ _ hx8 ?_
   clear HK K
   replace B2 := Ext.block hx8 B2
   replace B7 := Ext.block hx8 B7
   replace RH := Own.ext RH hx8
   replace u_RH := Nat.le_trans u_RH hx8.size
   replace s := s.ext hx8
   generalize w3.alloc (.cells #[.int .i64 0, .int .i64 0, .int .i64 1, .int .i64 2, .int .i64 (-1), .int .i64 9] 3) = w8 at B2 B7 RH RI u_RH u_RI s ⊢
   clear hx8
   refine badStep (by kernel_rfl) (fun K HK => ?_)
   simp only [PK]
   go_wp2_with fail
   refine (s_l1IntP g [0, 0, 1, 2, -1, 9] _ _ _ _ s.c (Own.stR RI (.inl g_RI)) (by decide) (by decide)).mono ?_
   rintro e w4 ⟨cq9, rfl, hcq9, hcq, hzq⟩
   replace B2 := hzq.blkS B2 (by unfold at1; omega)
   replace B7 := hzq.blkS B7 (by unfold at1; omega)
   replace RH := Own.at1g RH hzq (.inl g_RH)
   replace u_RH := Nat.le_trans u_RH hzq.size
   replace RI := Own.at1g RI hzq (.inl g_RI)
   replace u_RI := Nat.le_trans u_RI hzq.size
   replace s := s.draw hcq hzq
   clear hcq9
   clear hzq hcq
   go_wp2_with fail
   refine HK.out _ _ ?_
   clear HK K
   have hxe := hx0.trans (hn1.ofCur s.x hgl)
   obtain ⟨wpa, hwa, hba, hca⟩ := three_set B2 (.int .i64 a.ts) (.int .i64 a.beta) (.slice o_a a.hops.length c_a)
   have HWa := Lib.hid hwa
   clear hwa
   have ff0 := fr_of B2 0
   have ff1 := fr_of B2 1
   have ff2 := fr_of B2 2
   have cb_B2 := blk3 B2
   have cb_B7 := blk3 B7
   refine badStep (by kernel_rfl) (fun K HK => ?_)
   simp only [PK]
   go_wp2_with fail
   refine HK.out _ _ ?_
   clear HK K
   clear cb_B2 cb_B7
   rw [← HWa.out]
   clear HWa ff0 ff1 ff2
   replace RH := Own.at1g RH hca (by omega)
   replace u_RH := Nat.le_trans u_RH hca.size
   replace RI := Own.at1g RI hca (by omega)
   replace u_RI := Nat.le_trans u_RI hca.size
   replace B7 := hca.blkS B7 (by unfold at1; omega)
   replace B2 := hba
   clear hba
   replace hxe := hxe.chg hca (fun i hi => by have h1 : i = w.heap.size := hi; omega)
   try clear hca
   refine blkStep (fun K HK => ?_)
   simp only [PK]
   go_wp2_with fail
   refine HK.out _ _ ?_
   clear HK K
   refine doneStep (by kernel_rfl) ?_
   have cr_B2 := blk3 B2
   have cr_B7 := blk3 B7
   have hwb := (hx0.trans hn1).size
   go_wp2_with fail
   refine bodyPost_ret (v := .tuple #[.agg #[.int .i64 a.ts, .int .i64 a.beta, .slice o_a a.hops.length c_a], .int .i64 na, .int .i64 cq9]) (by simp [results, Try.results28, go_sem, cr_B2]) rfl ?_
   exact ⟨_, a, na, cq9, rfl, hl5, Own.rd _ RH, hxe⟩
  ·
   have hgl8 : g < w3.heap.size := s.c.lt
   have RI : (Own.keep Rep.int).own (rng w3.heap.size (w3.alloc (.cells #[.int .i64 0, .int .i64 0, .int .i64 1, .int .i64 2, .int .i64 (-1), .int .i64 9] 3)).heap.size) (w3.alloc (.cells #[.int .i64 0, .int .i64 0, .int .i64 1, .int .i64 2, .int .i64 (-1), .int .i64 9] 3)) (.slice (some ⟨w3.heap.size, 0, none⟩) 6 6) [0, 0, 1, 2, -1, 9] := Own.toKeep (Own.ofFr (hf := intFlen) (OwnF.lit intFlen w3.heap.size 3 w3 [0, 0, 1, 2, -1, 9] (Nat.le_refl _) (by simp [maxLen])) (Nat.le_refl _))
   have hx8 : Ext w3 (w3.alloc (.cells #[.int .i64 0, .int .i64 0, .int .i64 1, .int .i64 2, .int .i64 (-1), .int .i64 9] 3)) := (Ext.refl _).alloc _
   have g_RI : g < w3.heap.size := hgl8
   have u_RI := Nat.le_refl (w3.alloc (.cells #[.int .i64 0, .int .i64 0, .int .i64 1, .int .i64 2, .int .i64 (-1), .int .i64 9] 3)).heap.size
   refine oneStep (fun K HK => ?_)
   simp only [PK]
   go_wp2_with fail
   refine HK.out _ _ hx8 ?_
   clear HK K
   replace B2 := Ext.block hx8 B2
   replace B7 := Ext.block hx8 B7
   replace RH := Own.ext RH hx8
   replace u_RH := Nat.le_trans u_RH hx8.size
   replace s := s.ext hx8
   generalize w3.alloc (.cells #[.int .i64 0, .int .i64 0, .int .i64 1, .int .i64 2, .int .i64 (-1), .int .i64 9] 3) = w8 at B2 B7 RH RI u_RH u_RI s ⊢
   clear hx8
   refine twoStep ?_ ?_
   ·
    have cB := blk3 B7
    refine oneStep (fun K HK => ?_)
    simp only [PK]
    go_wp2_with fail
    refine HK.out _ _ (Ext.refl _) ?_
    clear HK K cB
    refine badStep (by kernel_rfl) (fun K HK => ?_)
    simp only [PK]
    go_wp2_with fail
    refine (s_l1IntP g [0, 0, 1, 2, -1, 9] _ _ _ _ s.c (Own.stR RI (.inl g_RI)) (by decide) (by decide)).mono ?_
    rintro e w4 ⟨cq9, rfl, hcq9, hcq, hzq⟩
    replace B2 := hzq.blkS B2 (by unfold at1; omega)
    replace B7 := hzq.blkS B7 (by unfold at1; omega)
    replace RH := Own.at1g RH hzq (.inl g_RH)
    replace u_RH := Nat.le_trans u_RH hzq.size
    replace RI := Own.at1g RI hzq (.inl g_RI)
    replace u_RI := Nat.le_trans u_RI hzq.size
    replace s := s.draw hcq hzq
    clear hcq9
    clear hzq hcq
    go_wp2_with fail
    refine HK.out _ _ ?_
    clear HK K
    have hxe := hx0.trans (hn1.ofCur s.x hgl)
    obtain ⟨wpa, hwa, hba, hca⟩ := three_set B2 (.int .i64 a.ts) (.int .i64 a.beta) (.slice o_a a.hops.length c_a)
    have HWa := Lib.hid hwa
    clear hwa
    have ff0 := fr_of B2 0
    have ff1 := fr_of B2 1
    have ff2 := fr_of B2 2
    have cb_B2 := blk3 B2
    have cb_B7 := blk3 B7
    refine badStep (by kernel_rfl) (fun K HK => ?_)
    simp only [PK]
    go_wp2_with fail
    refine HK.out _ _ ?_
    clear HK K
    clear cb_B2 cb_B7
    rw [← HWa.out]
    clear HWa ff0 ff1 ff2
    replace RH := Own.at1g RH hca (by omega)
    replace u_RH := Nat.le_trans u_RH hca.size
    replace RI := Own.at1g RI hca (by omega)
    replace u_RI := Nat.le_trans u_RI hca.size
    replace B7 := hca.blkS B7 (by unfold at1; omega)
    replace B2 := hba
    clear hba
    replace hxe := hxe.chg hca (fun i hi => by have h1 : i = w.heap.size := hi; omega)
    try clear hca
    refine blkStep (fun K HK => ?_)
    simp only [PK]
    go_wp2_with fail
    refine HK.out _ _ ?_
    clear HK K
    refine doneStep (by kernel_rfl) ?_
    have cr_B2 := blk3 B2
    have cr_B7 := blk3 B7
    have hwb := (hx0.trans hn1).size
    go_wp2_with fail
    refine bodyPost_ret (v := .tuple #[.agg #[.int .i64 a.ts, .int .i64 a.beta, .slice o_a a.hops.length c_a], .int .i64 na, .int .i64 cq9]) (by simp [results, Try.results28, go_sem, cr_B2]) rfl ?_
    exact ⟨_, a, na, cq9, rfl, hl5, Own.rd _ RH, hxe⟩
   ·
    refine badStep (by kernel_rfl) (fun K HK => ?_)
    simp only [PK]
    go_wp2_with fail
    refine (s_l1IntP g [0, 0, 1, 2, -1, 9] _ _ _ _ s.c (Own.stR RI (.inl g_RI)) (by decide) (by decide)).mono ?_
    rintro e w4 ⟨cq9, rfl, hcq9, hcq, hzq⟩
    replace B2 := hzq.blkS B2 (by unfold at1; omega)
    replace B7 := hzq.blkS B7 (by unfold at1; omega)
    replace RH := Own.at1g RH hzq (.inl g_RH)
    replace u_RH := Nat.le_trans u_RH hzq.size
    replace RI := Own.at1g RI hzq (.inl g_RI)
    replace u_RI := Nat.le_trans u_RI hzq.size
    replace s := s.draw hcq hzq
    clear hcq9
    clear hzq hcq
    go_wp2_with fail
    refine HK.out _ _ ?_
    clear HK K
    have cB := blk3 B7
    refine oneStep (fun K HK => ?_)
    simp only [PK]
    go_wp2_with fail
    refine HK.out _ _ (Ext.refl _) ?_
    clear HK K cB
    have hxe := hx0.trans (hn1.ofCur s.x hgl)
    obtain ⟨wpa, hwa, hba, hca⟩ := three_set B2 (.int .i64 a.ts) (.int .i64 a.beta) (.slice o_a a.hops.length c_a)
    have HWa := Lib.hid hwa
    clear hwa
    have ff0 := fr_of B2 0
    have ff1 := fr_of B2 1
    have ff2 := fr_of B2 2
    have cb_B2 := blk3 B2
    have cb_B7 := blk3 B7
    refine badStep (by kernel_rfl) (fun K HK => ?_)
    simp only [PK]
    go_wp2_with fail
    refine HK.out _ _ ?_
    clear HK K
    clear cb_B2 cb_B7
    rw [← HWa.out]
    clear HWa ff0 ff1 ff2
    replace RH := Own.at1g RH hca (by omega)
    replace u_RH := Nat.le_trans u_RH hca.size
    replace RI := Own.at1g RI hca (by omega)
    replace u_RI := Nat.le_trans u_RI hca.size
    replace B7 := hca.blkS B7 (by unfold at1; omega)
    replace B2 := hba
    clear hba
    replace hxe := hxe.chg hca (fun i hi => by have h1 : i = w.heap.size := hi; omega)
    try clear hca
    refine blkStep (fun K HK => ?_)
    simp only [PK]
    go_wp2_with fail
    refine HK.out _ _ ?_
    clear HK K
    refine doneStep (by kernel_rfl) ?_
    have cr_B2 := blk3 B2
    have cr_B7 := blk3 B7
    have hwb := (hx0.trans hn1).size
    go_wp2_with fail
    refine bodyPost_ret (v := .tuple #[.agg #[.int .i64 a.ts, .int .i64 a.beta, .slice o_a a.hops.length c_a], .int .i64 na, .int .i64 cq9]) (by simp [results, Try.results28, go_sem, cr_B2]) rfl ?_
    exact ⟨_, a, na, cq9, rfl, hl5, Own.rd _ RH, hxe⟩
 ·
  have hgl8 : g < wdd.heap.size := s.c.lt
  have RI : (Own.keep Rep.int).own (rng wdd.heap.size (wdd.alloc (.cells #[.int .i64 0, .int .i64 0, .int .i64 1, .int .i64 2, .int .i64 (-1), .int .i64 9] 3)).heap.size) (wdd.alloc (.cells #[.int .i64 0, .int .i64 0, .int .i64 1, .int .i64 2, .int .i64 (-1), .int .i64 9] 3)) (.slice (some ⟨wdd.heap.size, 0, none⟩) 6 6) [0, 0, 1, 2, -1, 9] := Own.toKeep (Own.ofFr (hf := intFlen) (OwnF.lit intFlen wdd.heap.size 3 wdd [0, 0, 1, 2, -1, 9] (Nat.le_refl _) (by simp [maxLen])) (Nat.le_refl _))
  have hx8 : Ext wdd (wdd.alloc (.cells #[.int .i64 0, .int .i64 0, .int .i64 1, .int .i64 2, .int .i64 (-1), .int .i64 9] 3)) := (Ext.refl _).alloc _
  have g_RI : g < wdd.heap.size := hgl8
  have u_RI := Nat.le_refl (wdd.alloc (.cells #[.int .i64 0, .int .i64 0, .int .i64 1, .int .i64 2, .int .i64 (-1), .int .i64 9] 3)).heap.size
  refine oneStep (fun K HK => ?_)
  simp only [PK]
  go_wp2_with fail
  refine HK.out _ _ hx8 ?_
  clear HK K
  replace B2 := Ext.block hx8 B2
  replace B7 := Ext.block hx8 B7
  replace RH := Own.ext RH hx8
  replace u_RH := Nat.le_trans u_RH hx8.size
  replace s := s.ext hx8
  generalize wdd.alloc (.cells #[.int .i64 0, .int .i64 0, .int .i64 1, .int .i64 2, .int .i64 (-1), .int .i64 9] 3) = w8 at B2 B7 RH RI u_RH u_RI s ⊢
  clear hx8
  refine twoStep ?_ ?_
  ·
   have cB := blk3 B7
   refine oneStep (fun K HK => ?_)
   simp only [PK]
   go_wp2_with fail
   refine HK.out _ _ (Ext.refl _) ?_
   clear HK K cB
   refine badStep (by kernel_rfl) (fun K HK => ?_)
   simp only [PK]
   go_wp2_with fail
   refine (s_l1Below g (6) _ _ _ s.c).mono ?_
   rintro e w3 ⟨na, rfl, hna0, hna1, hcq, hzq⟩
   replace B2 := hzq.blkS B2 (by unfold at1; omega)
   replace B7 := hzq.blkS B7 (by unfold at1; omega)
   replace RH := Own.at1g RH hzq (.inl g_RH)
   replace u_RH := Nat.le_trans u_RH hzq.size
   replace RI := Own.at1g RI hzq (.inl g_RI)
   replace u_RI := Nat.le_trans u_RI hzq.size
   replace s := s.draw hcq hzq
   clear hzq hcq
   go_wp2_with fail
   refine HK.out _ _ ?_
   clear HK K
   refine badStep (by kernel_rfl) (fun K HK => ?_)
   simp only [PK]
   go_wp2_with fail
   refine (s_l1IntP g [0, 0, 1, 2, -1, 9] _ _ _ _ s.c (Own.stR RI (.inl g_RI)) (by decide) (by decide)).mono ?_
   rintro e w4 ⟨cq9, rfl, hcq9, hcq, hzq⟩
   replace B2 := hzq.blkS B2 (by unfold at1; omega)
   replace B7 := hzq.blkS B7 (by unfold at1; omega)
   replace RH := Own.at1g RH hzq (.inl g_RH)
   replace u_RH := Nat.le_trans u_RH hzq.size
   replace RI := Own.at1g RI hzq (.inl g_RI)
   replace u_RI := Nat.le_trans u_RI hzq.size
   replace s := s.draw hcq hzq
   clear hcq9
   clear hzq hcq
   go_wp2_with fail
   refine HK.out _ _ ?_
   clear HK K
   have hxe := hx0.trans (hn1.ofCur s.x hgl)
   obtain ⟨wpa, hwa, hba, hca⟩ := three_set B2 (.int .i64 a.ts) (.int .i64 a.beta) (.slice o_a a.hops.length c_a)
   have HWa := Lib.hid hwa
   clear hwa
   have ff0 := fr_of B2 0
   have ff1 := fr_of B2 1
   have ff2 := fr_of B2 2
   have cb_B2 := blk3 B2
   have cb_B7 := blk3 B7
   refine badStep (by kernel_rfl) (fun K HK => ?_)
   simp only [PK]
   go_wp2_with fail
   refine HK.out _ _ ?_
   clear HK K
   clear cb_B2 cb_B7
   rw [← HWa.out]
   clear HWa ff0 ff1 ff2
   replace RH := Own.at1g RH hca (by omega)
   replace u_RH := Nat.le_trans u_RH hca.size
   replace RI := Own.at1g RI hca (by omega)
   replace u_RI := Nat.le_trans u_RI hca.size
   replace B7 := hca.blkS B7 (by unfold at1; omega)
   replace B2 := hba
   clear hba
   replace hxe := hxe.chg hca (fun i hi => by have h1 : i = w.heap.size := hi; omega)
   try clear hca
   refine blkStep (fun K HK => ?_)
   simp only [PK]
   go_wp2_with fail
   refine HK.out _ _ ?_
   clear HK K
   refine doneStep (by kernel_rfl) ?_
   have cr_B2 := blk3 B2
   have cr_B7 := blk3 B7
   have hwb := (hx0.trans hn1).size
   go_wp2_with fail
   refine bodyPost_ret (v := .tuple #[.agg #[.int .i64 a.ts, .int .i64 a.beta, .slice o_a a.hops.length c_a], .int .i64 na, .int .i64 cq9]) (by simp [results, Try.results28, go_sem, cr_B2]) rfl ?_
   exact ⟨_, a, na, cq9, rfl, hl5, Own.rd _ RH, hxe⟩
  ·
   refine badStep (by kernel_rfl) (fun K HK => ?_)
   simp only [PK]
   go_wp2_with fail
   refine (s_l1Below g (6) _ _ _ s.c).mono ?_
   rintro e w3 ⟨na, rfl, hna0, hna1, hcq, hzq⟩
   replace B2 := hzq.blkS B2 (by unfold at1; omega)
   replace B7 := hzq.blkS B7 (by unfold at1; omega)
   replace RH := Own.at1g RH hzq (.inl g_RH)
   replace u_RH := Nat.le_trans u_RH hzq.size
   replace RI := Own.at1g RI hzq (.inl g_RI)
   replace u_RI := Nat.le_trans u_RI hzq.size
   replace s := s.draw hcq hzq
   clear hzq hcq
   go_wp2_with fail
   refine HK.out _ _ ?_
   clear HK K
   refine twoStep ?_ ?_
   ·
    have cB := blk3 B7
    refine oneStep (fun K HK => ?_)
    simp only [PK]
    go_wp2_with fail
    refine HK.out _ _ (Ext.refl _) ?_
    clear HK K cB
    refine badStep (by kernel_rfl) (fun K HK => ?_)
    simp only [PK]
    go_wp2_with fail
    refine (s_l1IntP g [0, 0, 1, 2, -1, 9] _ _ _ _ s.c (Own.stR RI (.inl g_RI)) (by decide) (by decide)).mono ?_
    rintro e w4 ⟨cq9, rfl, hcq9, hcq, hzq⟩
    replace B2 := hzq.blkS B2 (by unfold at1; omega)
    replace B7 := hzq.blkS B7 (by unfold at1; omega)
    replace RH := Own.at1g RH hzq (.inl g_RH)
    replace u_RH := Nat.le_trans u_RH hzq.size
    replace RI := Own.at1g RI hzq (.inl g_RI)
    replace u_RI := Nat.le_trans u_RI hzq.size
    replace s := s.draw hcq hzq
    clear hcq9
    clear hzq hcq
    go_wp2_with fail
    refine HK.out _ _ ?_
    clear HK K
    have hxe := hx0.trans (hn1.ofCur s.x hgl)
    obtain ⟨wpa, hwa, hba, hca⟩ := three_set B2 (.int .i64 a.ts) (.int .i64 a.beta) (.slice o_a a.hops.length c_a)
    have HWa := Lib.hid hwa
    clear hwa
    have ff0 := fr_of B2 0
    have ff1 := fr_of B2 1
    have ff2 := fr_of B2 2
    have cb_B2 := blk3 B2
    have cb_B7 := blk3 B7
    refine badStep (by kernel_rfl) (fun K HK => ?_)
    simp only [PK]
    go_wp2_with fail
    refine HK.out _ _ ?_
    clear HK K
    clear cb_B2 cb_B7
    rw [← HWa.out]
    clear HWa ff0 ff1 ff2
    replace RH := Own.at1g RH hca (by omega)
    replace u_RH := Nat.le_trans u_RH hca.size
    replace RI := Own.at1g RI hca (by omega)
    replace u_RI := Nat.le_trans u_RI hca.size
    replace B7 := hca.blkS B7 (by unfold at1; omega)
    replace B2 := hba
    clear hba
    replace hxe := hxe.chg hca (fun i hi => by have h1 : i = w.heap.size := hi; omega)
    try clear hca
    refine blkStep (fun K HK => ?_)
    simp only [PK]
    go_wp2_with fail
    refine HK.out _ _ ?_
    clear HK K
    refine doneStep (by kernel_rfl) ?_
    have cr_B2 := blk3 B2
    have cr_B7 := blk3 B7
    have hwb := (hx0.trans hn1).size
    go_wp2_with fail
    refine bodyPost_ret (v := .tuple #[.agg #[.int .i64 a.ts, .int .i64 a.beta, .slice o_a a.hops.length c_a], .int .i64 na, .int .i64 cq9]) (by simp [results, Try.results28, go_sem, cr_B2]) rfl ?_
    exact ⟨_, a, na, cq9, rfl, hl5, Own.rd _ RH, hxe⟩
   ·
    refine badStep (by kernel_rfl) (fun K HK => ?_)
    simp only [PK]
    go_wp2_with fail
    refine (s_l1IntP g [0, 0, 1, 2, -1, 9] _ _ _ _ s.c (Own.stR RI (.inl g_RI)) (by decide) (by decide)).mono ?_
    rintro e w4 ⟨cq9, rfl, hcq9, hcq, hzq⟩
    replace B2 := hzq.blkS B2 (by unfold at1; omega)
    replace B7 := hzq.blkS B7 (by unfold at1; omega)
    replace RH := Own.at1g RH hzq (.inl g_RH)
    replace u_RH := Nat.le_trans u_RH hzq.size
    replace RI := Own.at1g RI hzq (.inl g_RI)
    replace u_RI := Nat.le_trans u_RI hzq.size
    replace s := s.draw hcq hzq
    clear hcq9
    clear hzq hcq
    go_wp2_with fail
    refine HK.out _ _ ?_
    clear HK K
    have cB := blk3 B7
    refine oneStep (fun K HK => ?_)
    simp only [PK]
    go_wp2_with fail
    refine HK.out _ _ (Ext.refl _) ?_
    clear HK K cB
    have hxe := hx0.trans (hn1.ofCur s.x hgl)
    obtain ⟨wpa, hwa, hba, hca⟩ := three_set B2 (.int .i64 a.ts) (.int .i64 a.beta) (.slice o_a a.hops.length c_a)
    have HWa := Lib.hid hwa
    clear hwa
    have ff0 := fr_of B2 0
    have ff1 := fr_of B2 1
    have ff2 := fr_of B2 2
    have cb_B2 := blk3 B2
    have cb_B7 := blk3 B7
    refine badStep (by kernel_rfl) (fun K HK => ?_)
    simp only [PK]
    go_wp2_with fail
    refine HK.out _ _ ?_
    clear HK K
    clear cb_B2 cb_B7
    rw [← HWa.out]
    clear HWa ff0 ff1 ff2
    replace RH := Own.at1g RH hca (by omega)
    replace u_RH := Nat.le_trans u_RH hca.size
    replace RI := Own.at1g RI hca (by omega)
    replace u_RI := Nat.le_trans u_RI hca.size
    replace B7 := hca.blkS B7 (by unfold at1; omega)
    replace B2 := hba
    clear hba
    replace hxe := hxe.chg hca (fun i hi => by have h1 : i = w.heap.size := hi; omega)
    try clear hca
    refine blkStep (fun K HK => ?_)
    simp only [PK]
    go_wp2_with fail
    refine HK.out _ _ ?_
    clear HK K
    refine doneStep (by kernel_rfl) ?_
    have cr_B2 := blk3 B2
    have cr_B7 := blk3 B7
    have hwb := (hx0.trans hn1).size
    go_wp2_with fail
    refine bodyPost_ret (v := .tuple #[.agg #[.int .i64 a.ts, .int .i64 a.beta, .slice o_a a.hops.length c_a], .int .i64 na, .int .i64 cq9]) (by simp [results, Try.results28, go_sem, cr_B2]) rfl ?_
    exact ⟨_, a, na, cq9, rfl, hl5, Own.rd _ RH, hxe⟩

set_option maxRecDepth 100000 in
set_option maxHeartbeats 20000000 in
theorem s_DrawPartIngress (code : List Int) (cv : Value) (w : World) (hr : RdS Rep.byte w cv code) (hu : ∀ x ∈ code, U8 x) (hl : code.length ≤ 1048576) :
  Calls Try.prog 29 #[cv] w fun e w' => ∃ (v : Value) (x : Part) (k : Int), e = .returned (.tuple #[.agg #[.int .i64 x.kind, .int .i64 x.ts, .int .i64 x.beta, v], .int .i64 k]) ∧ x.hops.length ≤ 6 ∧ RdS Hop.rep w' v x.hops ∧ Ext w w' := by
 have hx0 : Ext w (w.alloc (.cells #[.int .i64 0, .int .i64 0, .int .i64 0, .slice none 0 0] 78)) := (Ext.refl _).alloc _
 have HB := blk_new w (.cells #[.int .i64 0, .int .i64 0, .int .i64 0, .slice none 0 0] 78)
 go_enter Try.func29, Try.ntmps29
 go_wp2_with fail
 refine (s_l21One code _ _ (hr.ext hx0) hu hl).mono ?_
 rintro e w1 ⟨g, lo1, vp, x, rfl, hx6, RP, hgl, hglo, hc1, hn1⟩
 have hgw := hc1.lt
 have s : DSt g cv code w1 w1 := ⟨hc1, Chg.refl _ _, hc1⟩
 have B2 := Ext.block hn1 HB
 have hgr : w.heap.size < g := by simp at hgl; omega
 clear HB
 have g_RP : g < lo1 := hglo
 have u_RP : w1.heap.size ≤ w1.heap.size := Nat.le_refl _
 have lt_B2_RP : w.heap.size < lo1 := by omega
 obtain ⟨op_, cp_, rfl, _⟩ := (OwnF.rd (hf := Hop.flen) RP.1).shape
 clear hc1
 have cb_B2 := blk4 B2
 go_upto_region 2 with (fail)
 clear cb_B2
 have hxa : Ext w1 (w1.alloc (.cells #[.int .i64 x.kind, .int .i64 x.ts, .int .i64 x.beta, .slice op_ x.hops.length cp_] 78)) := (Ext.refl _).alloc _
 have BB := blk_new w1 (.cells #[.int .i64 x.kind, .int .i64 x.ts, .int .i64 x.beta, .slice op_ x.hops.length cp_] 78)
 obtain ⟨b5, eb5⟩ : ∃ b, b = w1.heap.size := ⟨_, rfl⟩
 have ltw_b5 : w1.heap.size ≤ b5 := by rw [eb5]; exact s.x.size
 have lt_B2_b5 : w.heap.size < b5 := by rw [eb5]; exact blk_lt B2
 have hb_RP_b5 : w1.heap.size ≤ b5 := by rw [eb5]; exact u_RP
 replace B2 := Ext.block hxa B2
 replace RP := Own.ext RP hxa
 replace u_RP := Nat.le_trans u_RP hxa.size
 replace s := s.ext hxa
 have B5 := BB
 rw [← eb5] at B5
 rw [← eb5]
 clear hxa BB
 generalize (w1.alloc (.cells #[.int .i64 x.kind, .int .i64 x.ts, .int .i64 x.beta, .slice op_ x.hops.length cp_] 78)) = wa at B2 B5 RP u_RP s ⊢
 clear eb5
 refine wp_region_fin (fun k => k = g ∨ k = w.heap.size) [([0, 1], 2), ([3], 4)] [5] [] (by kernel_rfl) (by kernel_rfl) (by kernel_rfl) ?_
 have ch_B5 := blk4 B5
 have q0 := ChgSW.cell (S := fun k => k = g ∨ k = w.heap.size) (ch_B5.1) (by first | (unfold at1; simp only; omega) | (simp only; omega))
 have q1 := ChgSW.cell (S := fun k => k = g ∨ k = w.heap.size) (ch_B5.2.1) (by first | (unfold at1; simp only; omega) | (simp only; omega))
 have q2 := ChgSW.cell (S := fun k => k = g ∨ k = w.heap.size) (ch_B5.2.2.1) (by first | (unfold at1; simp only; omega) | (simp only; omega))
 have q3 := ChgSW.cell (S := fun k => k = g ∨ k = w.heap.size) (ch_B5.2.2.2) (by first | (unfold at1; simp only; omega) | (simp only; omega))
 clear ch_B5
 simp only [wpBlocksX, pickOps, PK]
 have hch : Chg (fun k => k = g ∨ k = w.heap.size) wa wa.drew := Chg.ofExt (Ext.refl wa).drew
 replace B2 := Ext.block ((Ext.refl wa).drew) B2
 replace B5 := Ext.block ((Ext.refl wa).drew) B5
 replace RP := Own.ext RP ((Ext.refl wa).drew)
 replace u_RP := Nat.le_trans u_RP ((Ext.refl wa).drew).size
 replace s := s.ext ((Ext.refl wa).drew)
 obtain ⟨wt, hnw⟩ : ∃ wn, wn = wa.drew := ⟨_, rfl⟩
 rw [← hnw] at B2 B5 RP u_RP s hch ⊢
 clear hnw
 repeat (first | go_big_quiet_step (fail) | quiet_step (fail))
 refine wpQuiet_nil ?_
 go_wp2_with fail
 refine (s_l1Below g (6) _ _ _ s.c).mono ?_
 rintro e w2 ⟨na, rfl, hna0, hna1, hcq, hzq⟩
 replace B2 := hzq.blkS B2 (by unfold at1; omega)
 replace B5 := hzq.blkS B5 (by unfold at1; omega)
 replace RP := Own.at1g RP hzq (.inl g_RP)
 replace u_RP := Nat.le_trans u_RP hzq.size
 replace s := s.draw hcq hzq
 replace hch := hch.trans (hzq.mono (fun b h => .inl h))
 clear hzq hcq
 go_wp2_with fail
 refine ⟨⟨⟨_, hch⟩, rfl⟩, ?_⟩
 repeat (first | go_big_quiet_step (fail) | quiet_step (fail))
 refine wpQuiet_nil ?_
 have hxe := hx0.trans (hn1.ofCur s.x hgl)
 obtain ⟨wpa, hwa, hba, hca⟩ := four_setP B2 (.int .i64 x.kind) (.int .i64 x.ts) (.int .i64 x.beta) (.slice op_ x.hops.length cp_)
 have HWa := Lib.hid hwa
 clear hwa
 have ff0 := fr_of B2 0
 have ff1 := fr_of B2 1
 have ff2 := fr_of B2 2
 have ff3 := fr_of B2 3
 have cb := blk4 B2
 go_wp2_with fail
 rw [← HWa.out]
 clear HWa cb ff0 ff1 ff2 ff3
 replace hch := hch.trans (hca.mono (fun b h => .inr h))
 refine ⟨⟨⟨_, hch⟩, rfl⟩, ?_⟩
 replace RP := Own.at1g RP hca (by omega)
 replace u_RP := Nat.le_trans u_RP hca.size
 replace B5 := hca.blkS B5 (by unfold at1; omega)
 replace B2 := hba
 clear hba
 replace hxe := hxe.chg hca (fun i hi => by have h1 : i = w.heap.size := hi; omega)
 try clear hca
 repeat (first | go_big_quiet_step (fail) | quiet_step (fail))
 refine wpQuiet_nil ?_
 refine NoPanic.normal ?_
 clear hch q0 q1 q2 q3
 have cr_B2 := blk4 B2
 have cr_B5 := blk4 B5
 have hwb := (hx0.trans hn1).size
 go_wp2_with fail
 refine bodyPost_ret (v := .tuple #[.agg #[.int .i64 x.kind, .int .i64 x.ts, .int .i64 x.beta, .slice op_ x.hops.length cp_], .int .i64 (na - 1)]) (by simp [results, Try.results29, go_sem, cr_B2]) rfl ?_
 exact ⟨_, x, na - 1, rfl, hx6, OwnF.rd (hf := Hop.flen) RP.1, hxe⟩

set_option maxRecDepth 100000 in
set_option maxHeartbeats 20000000 in
theorem s_DrawValidPart (code : List Int) (cv : Value) (w : World) (hr : RdS Rep.byte w cv code) (hu : ∀ x ∈ code, U8 x) (hl : code.length ≤ 1048576) :
  Calls Try.prog 30 #[cv] w fun e w' => ∃ (v1 v2 v : Value) (t : Topo) (x : Part), e = .returned (.tuple #[.agg #[v1, v2], .agg #[.int .i64 x.kind, .int .i64 x.ts, .int .i64 x.beta, v]]) ∧ TopoOk t ∧ x.hops.length ≤ 6 ∧ RdS ASd.rep w' v1 t.ases ∧ RdS Lnk.rep w' v2 t.links ∧ RdS Hop.rep w' v x.hops ∧ Ext w w' := by
 have hx0 := ext2 w (.cells #[.slice none 0 0, .slice none 0 0] 41) (.cells #[.int .i64 0, .int .i64 0, .int .i64 0, .slice none 0 0] 78)
 have HB := al2 w (.cells #[.slice none 0 0, .slice none 0 0] 41) (.cells #[.int .i64 0, .int .i64 0, .int .i64 0, .slice none 0 0] 78)
 go_enter Try.func30, Try.ntmps30
 go_wp2_with fail
 refine (s_l1New code _ _ (hr.ext hx0) hu hl).mono ?_
 rintro e w1 ⟨g, rfl, hgl, hc1, hn1⟩
 have hgw := hc1.lt
 have s : DSt g cv code w1 w1 := ⟨hc1, Chg.refl _ _, hc1⟩
 have B2 := Ext.block hn1 HB.1
 have B3 := Ext.block hn1 HB.2
 have hgr : (w.heap.size + 1) < g := by simp at hgl; omega
 clear HB
 clear hc1
 have cb_B2 := blk2 B2
 have cb_B3 := blk4 B3
 go_wp2_with fail
 clear cb_B2 cb_B3
 have hbs : w1.heap.size ≤ w1.heap.size := s.x.size
 have ltq_B2 : w.heap.size < w1.heap.size := blk_lt B2
 have ltq_B3 : (w.heap.size + 1) < w1.heap.size := blk_lt B3
 refine (s_l21Any g _ _ _ s.c).mono ?_
 rintro e w2 ⟨v1, v2, vp, t, x, rfl, TK, hx6, RA, RL, RP, hcq, hzq⟩
 replace B2 := hzq.blkS B2 (by unfold at1; omega)
 replace B3 := hzq.blkS B3 (by unfold at1; omega)
 replace s := s.draw hcq hzq
 obtain ⟨o1, c1, rfl, _⟩ := RdS.shape (Own.rd _ RA)
 obtain ⟨o2, c2, rfl, _⟩ := RdS.shape (Own.rd _ RL)
 obtain ⟨op_, cp_, rfl, _⟩ := (OwnF.rd (hf := Hop.flen) RP.1).shape
 have g_RA : g < w1.heap.size := by omega
 have u_RA : w2.heap.size ≤ w2.heap.size := by omega
 have lt_B2_RA : w.heap.size < w1.heap.size := by omega
 have lt_B3_RA : (w.heap.size + 1) < w1.heap.size := by omega
 have g_RL : g < w1.heap.size := by omega
 have u_RL : w2.heap.size ≤ w2.heap.size := by omega
 have lt_B2_RL : w.heap.size < w1.heap.size := by omega
 have lt_B3_RL : (w.heap.size + 1) < w1.heap.size := by omega
 have g_RP : g < w1.heap.size := by omega
 have u_RP : w2.heap.size ≤ w2.heap.size := by omega
 have lt_B2_RP : w.heap.size < w1.heap.size := by omega
 have lt_B3_RP : (w.heap.size + 1) < w1.heap.size := by omega
 clear hzq hcq hbs ltq_B2 ltq_B3
 have hxe := hx0.trans (hn1.ofCur s.x hgl)
 obtain ⟨wpc, hwc, hbc, hcc⟩ := two_set B2 (.slice o1 t.ases.length c1) (.slice o2 t.links.length c2)
 have HWc := Lib.hid hwc
 clear hwc
 have fc0 := fr_of B2 0
 have fc1 := fr_of B2 1
 have fk0 := fr_of B3 0
 have fk1 := fr_of B3 1
 have fk2 := fr_of B3 2
 have fk3 := fr_of B3 3
 have cb_B2 := blk2 B2
 have cb_B3 := blk4 B3
 go_wp2_with fail
 clear cb_B2 cb_B3
 rw [← HWc.out]
 clear HWc fc0 fc1 fk0 fk1 fk2 fk3
 replace RA := Own.at1g RA hcc (by omega)
 replace u_RA := Nat.le_trans u_RA hcc.size
 replace RL := Own.at1g RL hcc (by omega)
 replace u_RL := Nat.le_trans u_RL hcc.size
 replace RP := Own.at1g RP hcc (by omega)
 replace u_RP := Nat.le_trans u_RP hcc.size
 replace B3 := hcc.blkS B3 (by unfold at1; omega)
 replace B2 := hbc
 clear hbc
 replace hxe := hxe.chg hcc (fun i hi => by have h1 : i = w.heap.size := hi; omega)
 try clear hcc
 obtain ⟨wpd, hwd, hbd, hcd⟩ := four_setP B3 (.int .i64 x.kind) (.int .i64 x.ts) (.int .i64 x.beta) (.slice op_ x.hops.length cp_)
 rw [← hwd]
 clear hwd
 replace RA := Own.at1g RA hcd (by omega)
 replace u_RA := Nat.le_trans u_RA hcd.size
 replace RL := Own.at1g RL hcd (by omega)
 replace u_RL := Nat.le_trans u_RL hcd.size
 replace RP := Own.at1g RP hcd (by omega)
 replace u_RP := Nat.le_trans u_RP hcd.size
 replace B2 := hcd.blkS B2 (by unfold at1; omega)
 replace B3 := hbd
 clear hbd
 replace hxe := hxe.chg hcd (fun i hi => by have h1 : i = (w.heap.size + 1) := hi; omega)
 try clear hcd
 have cr_B2 := blk2 B2
 have cr_B3 := blk4 B3
 have hwb := (hx0.trans hn1).size
 go_wp2_with fail
 refine bodyPost_ret (v := .tuple #[.agg #[.slice o1 t.ases.length c1, .slice o2 t.links.length c2], .agg #[.int .i64 x.kind, .int .i64 x.ts, .int .i64 x.beta, .slice op_ x.hops.length cp_]]) (by simp [results, Try.results30, go_sem, cr_B2, cr_B3]) rfl ?_
 exact ⟨_, _, _, t, x, rfl, TK, hx6, Own.rd _ RA, Own.rd _ RL, OwnF.rd (hf := Hop.flen) RP.1, hxe⟩

set_option maxRecDepth 100000 in
set_option maxHeartbeats 20000000 in
theorem s_DrawEqualParts (code : List Int) (cv : Value) (w : World) (hr : RdS Rep.byte w cv code) (hu : ∀ x ∈ code, U8 x) (hl : code.length ≤ 1048576) :
  Calls Try.prog 31 #[cv] w fun e w' => ∃ (va vb : Value) (x y : Part), e = .returned (.tuple #[.agg #[.int .i64 x.kind, .int .i64 x.ts, .int .i64 x.beta, va], .agg #[.int .i64 y.kind, .int .i64 y.ts, .int .i64 y.beta, vb]]) ∧ x.hops.length ≤ 6 ∧ y.hops.length ≤ 6 ∧ RdS Hop.rep w' va x.hops ∧ RdS Hop.rep w' vb y.hops ∧ Ext w w' := by
 have hx0 := ext2 w (.cells #[.int .i64 0, .int .i64 0, .int .i64 0, .slice none 0 0] 78) (.cells #[.int .i64 0, .int .i64 0, .int .i64 0, .slice none 0 0] 78)
 have HB := al2 w (.cells #[.int .i64 0, .int .i64 0, .int .i64 0, .slice none 0 0] 78) (.cells #[.int .i64 0, .int .i64 0, .int .i64 0, .slice none 0 0] 78)
 go_enter Try.func31, Try.ntmps31
 go_wp2_with fail
 refine (s_l21One code _ _ (hr.ext hx0) hu hl).mono ?_
 rintro e w1 ⟨g, lo1, vp, x, rfl, hx6, RP, hgl, hglo, hc1, hn1⟩
 have hgw := hc1.lt
 have s : DSt g cv code w1 w1 := ⟨hc1, Chg.refl _ _, hc1⟩
 have B2 := Ext.block hn1 HB.1
 have B3 := Ext.block hn1 HB.2
 have hgr : (w.heap.size + 1) < g := by simp at hgl; omega
 clear HB
 have g_RP : g < lo1 := hglo
 have u_RP : w1.heap.size ≤ w1.heap.size := Nat.le_refl _
 have lt_B2_RP : w.heap.size < lo1 := by omega
 have lt_B3_RP : (w.heap.size + 1) < lo1 := by omega
 obtain ⟨op_, cp_, rfl, _⟩ := (OwnF.rd (hf := Hop.flen) RP.1).shape
 clear hc1
 have cb_B2 := blk4 B2
 have cb_B3 := blk4 B3
 go_upto_region 2 with (fail)
 clear cb_B2 cb_B3
 have hxa : Ext w1 (w1.alloc (.cells #[.int .i64 x.kind, .int .i64 x.ts, .int .i64 x.beta, .slice op_ x.hops.length cp_] 78)) := (Ext.refl _).alloc _
 have BB := blk_new w1 (.cells #[.int .i64 x.kind, .int .i64 x.ts, .int .i64 x.beta, .slice op_ x.hops.length cp_] 78)
 obtain ⟨b5, eb5⟩ : ∃ b, b = w1.heap.size := ⟨_, rfl⟩
 have ltw_b5 : w1.heap.size ≤ b5 := by rw [eb5]; exact s.x.size
 have lt_B2_b5 : w.heap.size < b5 := by rw [eb5]; exact blk_lt B2
 have lt_B3_b5 : (w.heap.size + 1) < b5 := by rw [eb5]; exact blk_lt B3
 have hb_RP_b5 : w1.heap.size ≤ b5 := by rw [eb5]; exact u_RP
 replace B2 := Ext.block hxa B2
 replace B3 := Ext.block hxa B3
 replace RP := Own.ext RP hxa
 replace u_RP := Nat.le_trans u_RP hxa.size
 replace s := s.ext hxa
 have B5 := BB
 rw [← eb5] at B5
 rw [← eb5]
 clear hxa BB
 generalize (w1.alloc (.cells #[.int .i64 x.kind, .int .i64 x.ts, .int .i64 x.beta, .slice op_ x.hops.length cp_] 78)) = wa at B2 B3 B5 RP u_RP s ⊢
 clear eb5
 have cb_B2 := blk4 B2
 have cb_B3 := blk4 B3
 have cb_B5 := blk4 B5
 go_wp2_with fail
 clear cb_B2 cb_B3 cb_B5
 refine (s_l1Once g (2) _ _ _ s.c).mono ?_
 rintro e w2 ⟨b1, rfl, hcq, hzq⟩
 replace B2 := hzq.blkS B2 (by unfold at1; omega)
 replace B3 := hzq.blkS B3 (by unfold at1; omega)
 replace B5 := hzq.blkS B5 (by unfold at1; omega)
 replace RP := Own.at1g RP hzq (.inl g_RP)
 replace u_RP := Nat.le_trans u_RP hzq.size
 replace s := s.draw hcq hzq
 clear hzq hcq
 cases b1
 case false =>
  have cb_B2 := blk4 B2
  have cb_B3 := blk4 B3
  have cb_B5 := blk4 B5
  go_wp2_with fail
  clear cb_B2 cb_B3 cb_B5
  have hbs : w1.heap.size ≤ w2.heap.size := s.x.size
  have ltq_B2 : w.heap.size < w2.heap.size := blk_lt B2
  have ltq_B3 : (w.heap.size + 1) < w2.heap.size := blk_lt B3
  have ltq_B5 : b5 < w2.heap.size := blk_lt B5
  refine (s_l21Any g _ _ _ s.c).mono ?_
  rintro e w3 ⟨w1_, w2_, vq, t, y, rfl, TK, hy6, RA, RL, RY, hcq, hzq⟩
  replace B2 := hzq.blkS B2 (by unfold at1; omega)
  replace B3 := hzq.blkS B3 (by unfold at1; omega)
  replace B5 := hzq.blkS B5 (by unfold at1; omega)
  replace RP := Own.at1g RP hzq (.inl g_RP)
  replace u_RP := Nat.le_trans u_RP hzq.size
  replace s := s.draw hcq hzq
  obtain ⟨o1, c1, rfl, _⟩ := RdS.shape (Own.rd _ RA)
  obtain ⟨o2, c2, rfl, _⟩ := RdS.shape (Own.rd _ RL)
  obtain ⟨oy_, cy_, rfl, _⟩ := (OwnF.rd (hf := Hop.flen) RY.1).shape
  have g_RA : g < w2.heap.size := by omega
  have u_RA : w3.heap.size ≤ w3.heap.size := by omega
  have lt_B2_RA : w.heap.size < w2.heap.size := by omega
  have lt_B3_RA : (w.heap.size + 1) < w2.heap.size := by omega
  have lt_B5_RA : b5 < w2.heap.size := by omega
  have g_RL : g < w2.heap.size := by omega
  have u_RL : w3.heap.size ≤ w3.heap.size := by omega
  have lt_B2_RL : w.heap.size < w2.heap.size := by omega
  have lt_B3_RL : (w.heap.size + 1) < w2.heap.size := by omega
  have lt_B5_RL : b5 < w2.heap.size := by omega
  have g_RY : g < w2.heap.size := by omega
  have u_RY : w3.heap.size ≤ w3.heap.size := by omega
  have lt_B2_RY : w.heap.size < w2.heap.size := by omega
  have lt_B3_RY : (w.heap.size + 1) < w2.heap.size := by omega
  have lt_B5_RY : b5 < w2.heap.size := by omega
  clear hzq hcq hbs ltq_B2 ltq_B3 ltq_B5
  have cb_B2 := blk4 B2
  have cb_B3 := blk4 B3
  have cb_B5 := blk4 B5
  go_upto_region 5 with (fail)
  clear cb_B2 cb_B3 cb_B5
  have hxa := ext2 w3 (.cells #[.slice o1 t.ases.length c1, .slice o2 t.links.length c2] 41) (.cells #[.int .i64 y.kind, .int .i64 y.ts, .int .i64 y.beta, .slice oy_ y.hops.length cy_] 78)
  have BB := al2 w3 (.cells #[.slice o1 t.ases.length c1, .slice o2 t.links.length c2] 41) (.cells #[.int .i64 y.kind, .int .i64 y.ts, .int .i64 y.beta, .slice oy_ y.hops.length cy_] 78)
  obtain ⟨b6, eb6⟩ : ∃ b, b = w3.heap.size := ⟨_, rfl⟩
  have ltw_b6 : w1.heap.size ≤ b6 := by rw [eb6]; exact s.x.size
  have lt_B2_b6 : w.heap.size < b6 := by rw [eb6]; exact blk_lt B2
  have lt_B3_b6 : (w.heap.size + 1) < b6 := by rw [eb6]; exact blk_lt B3
  have lt_B5_b6 : b5 < b6 := by rw [eb6]; exact blk_lt B5
  have hb_RP_b6 : w1.heap.size ≤ b6 := by rw [eb6]; exact u_RP
  have hb_RA_b6 : w3.heap.size ≤ b6 := by rw [eb6]; exact u_RA
  have hb_RL_b6 : w3.heap.size ≤ b6 := by rw [eb6]; exact u_RL
  have hb_RY_b6 : w3.heap.size ≤ b6 := by rw [eb6]; exact u_RY
  replace B2 := Ext.block hxa B2
  replace B3 := Ext.block hxa B3
  replace B5 := Ext.block hxa B5
  replace RP := Own.ext RP hxa
  replace u_RP := Nat.le_trans u_RP hxa.size
  replace RA := Own.ext RA hxa
  replace u_RA := Nat.le_trans u_RA hxa.size
  replace RL := Own.ext RL hxa
  replace u_RL := Nat.le_trans u_RL hxa.size
  replace RY := Own.ext RY hxa
  replace u_RY := Nat.le_trans u_RY hxa.size
  replace s := s.ext hxa
  have B6 := BB.1
  have B7 := BB.2
  rw [← eb6] at B6 B7
  rw [← eb6]
  clear hxa BB
  generalize ((w3.alloc (.cells #[.slice o1 t.ases.length c1, .slice o2 t.links.length c2] 41)).alloc (.cells #[.int .i64 y.kind, .int .i64 y.ts, .int .i64 y.beta, .slice oy_ y.hops.length cy_] 78)) = wb at B2 B3 B5 B6 B7 RP RA RL RY u_RP u_RA u_RL u_RY s ⊢
  clear eb6
  clear B6
  refine wp_region_fin (fun k => k = w.heap.size) [([0, 1], 2)] [] [3] (by kernel_rfl) (by kernel_rfl) (by kernel_rfl) ?_
  have ch_B5 := blk4 B5
  have q0 := ChgSW.cell (S := fun k => k = w.heap.size) (ch_B5.1) (by first | (unfold at1; simp only; omega) | (simp only; omega))
  have q1 := ChgSW.cell (S := fun k => k = w.heap.size) (ch_B5.2.1) (by first | (unfold at1; simp only; omega) | (simp only; omega))
  have q2 := ChgSW.cell (S := fun k => k = w.heap.size) (ch_B5.2.2.1) (by first | (unfold at1; simp only; omega) | (simp only; omega))
  have q3 := ChgSW.cell (S := fun k => k = w.heap.size) (ch_B5.2.2.2) (by first | (unfold at1; simp only; omega) | (simp only; omega))
  clear ch_B5
  have ch_B7 := blk4 B7
  have q4 := ChgSW.cell (S := fun k => k = w.heap.size) (ch_B7.1) (by first | (unfold at1; simp only; omega) | (simp only; omega))
  have q5 := ChgSW.cell (S := fun k => k = w.heap.size) (ch_B7.2.1) (by first | (unfold at1; simp only; omega) | (simp only; omega))
  have q6 := ChgSW.cell (S := fun k => k = w.heap.size) (ch_B7.2.2.1) (by first | (unfold at1; simp only; omega) | (simp only; omega))
  have q7 := ChgSW.cell (S := fun k => k = w.heap.size) (ch_B7.2.2.2) (by first | (unfold at1; simp only; omega) | (simp only; omega))
  clear ch_B7
  simp only [wpBlocksX, pickOps, PK]
  have hch : Chg (fun k => k = w.heap.size) wb wb.drew := Chg.ofExt (Ext.refl wb).drew
  replace B2 := Ext.block ((Ext.refl wb).drew) B2
  replace B3 := Ext.block ((Ext.refl wb).drew) B3
  replace B5 := Ext.block ((Ext.refl wb).drew) B5
  replace B7 := Ext.block ((Ext.refl wb).drew) B7
  replace RP := Own.ext RP ((Ext.refl wb).drew)
  replace u_RP := Nat.le_trans u_RP ((Ext.refl wb).drew).size
  replace RA := Own.ext RA ((Ext.refl wb).drew)
  replace u_RA := Nat.le_trans u_RA ((Ext.refl wb).drew).size
  replace RL := Own.ext RL ((Ext.refl wb).drew)
  replace u_RL := Nat.le_trans u_RL ((Ext.refl wb).drew).size
  replace RY := Own.ext RY ((Ext.refl wb).drew)
  replace u_RY := Nat.le_trans u_RY ((Ext.refl wb).drew).size
  replace s := s.ext ((Ext.refl wb).drew)
  obtain ⟨wt, hnw⟩ : ∃ wn, wn = wb.drew := ⟨_, rfl⟩
  rw [← hnw] at B2 B3 B5 B7 RP RA RL RY u_RP u_RA u_RL u_RY s hch ⊢
  clear hnw
  repeat (first | go_big_quiet_step (fail) | quiet_step (fail))
  refine wpQuiet_nil ?_
  have hxe := hx0.trans (hn1.ofCur s.x hgl)
  obtain ⟨wpa, hwa, hba, hca⟩ := four_setP B2 (.int .i64 x.kind) (.int .i64 x.ts) (.int .i64 x.beta) (.slice op_ x.hops.length cp_)
  have HWa := Lib.hid hwa
  clear hwa
  have ff0 := fr_of B2 0
  have ff1 := fr_of B2 1
  have ff2 := fr_of B2 2
  have ff3 := fr_of B2 3
  have cb := blk4 B2
  go_wp2_with fail
  rw [← HWa.out]
  clear HWa cb ff0 ff1 ff2 ff3
  replace hch := hch.trans (hca.mono (fun b h => h))
  refine ⟨⟨⟨_, hch⟩, rfl⟩, ?_⟩
  replace RP := Own.at1g RP hca (by omega)
  replace u_RP := Nat.le_trans u_RP hca.size
  replace RA := Own.at1g RA hca (by omega)
  replace u_RA := Nat.le_trans u_RA hca.size
  replace RL := Own.at1g RL hca (by omega)
  replace u_RL := Nat.le_trans u_RL hca.size
  replace RY := Own.at1g RY hca (by omega)
  replace u_RY := Nat.le_trans u_RY hca.size
  replace B3 := hca.blkS B3 (by unfold at1; omega)
  replace B5 := hca.blkS B5 (by unfold at1; omega)
  replace B7 := hca.blkS B7 (by unfold at1; omega)
  replace B2 := hba
  clear hba
  replace hxe := hxe.chg hca (fun i hi => by have h1 : i = w.heap.size := hi; omega)
  try clear hca
  repeat (first | go_big_quiet_step (fail) | quiet_step (fail))
  refine wpQuiet_nil ?_
  obtain ⟨wpb, hwb, hbb, hcb⟩ := four_setP B3 (.int .i64 y.kind) (.int .i64 y.ts) (.int .i64 y.beta) (.slice oy_ y.hops.length cy_)
  have HWb := Lib.hid hwb
  clear hwb
  have ff0 := fr_of B3 0
  have ff1 := fr_of B3 1
  have ff2 := fr_of B3 2
  have ff3 := fr_of B3 3
  have cb := blk4 B3
  go_wp2_with fail
  rw [← HWb.out]
  clear HWb cb ff0 ff1 ff2 ff3
  replace RP := Own.at1g RP hcb (by omega)
  replace u_RP := Nat.le_trans u_RP hcb.size
  replace RA := Own.at1g RA hcb (by omega)
  replace u_RA := Nat.le_trans u_RA hcb.size
  replace RL := Own.at1g RL hcb (by omega)
  replace u_RL := Nat.le_trans u_RL hcb.size
  replace RY := Own.at1g RY hcb (by omega)
  replace u_RY := Nat.le_trans u_RY hcb.size
  replace B2 := hcb.blkS B2 (by unfold at1; omega)
  replace B5 := hcb.blkS B5 (by unfold at1; omega)
  replace B7 := hcb.blkS B7 (by unfold at1; omega)
  replace B3 := hbb
  clear hbb
  replace hxe := hxe.chg hcb (fun i hi => by have h1 : i = (w.heap.size + 1) := hi; omega)
  try clear hcb
  refine NoPanic.normal ?_
  clear hch q0 q1 q2 q3 q4 q5 q6 q7
  have cr_B2 := blk4 B2
  have cr_B3 := blk4 B3
  have cr_B5 := blk4 B5
  have cr_B7 := blk4 B7
  have hwb := (hx0.trans hn1).size
  go_wp2_with fail
  refine bodyPost_ret (v := .tuple #[.agg #[.int .i64 x.kind, .int .i64 x.ts, .int .i64 x.beta, .slice op_ x.hops.length cp_], .agg #[.int .i64 y.kind, .int .i64 y.ts, .int .i64 y.beta, .slice oy_ y.hops.length cy_]]) (by simp [results, Try.results31, go_sem, cr_B2, cr_B3]) rfl ?_
  exact ⟨_, _, x, y, rfl, hx6, hy6, OwnF.rd (hf := Hop.flen) RP.1, OwnF.rd (hf := Hop.flen) RY.1, hxe⟩
 case true =>
  have cb_B2 := blk4 B2
  have cb_B3 := blk4 B3
  have cb_B5 := blk4 B5
  go_upto_region 3 with (fail)
  clear cb_B2 cb_B3 cb_B5
  refine wp_region_fin (fun k => k = w.heap.size) [([0, 1], 2), ([], 3)] [] [4] (by kernel_rfl) (by kernel_rfl) (by kernel_rfl) ?_
  have ch_B5 := blk4 B5
  have q0 := ChgSW.cell (S := fun k => k = w.heap.size) (ch_B5.1) (by first | (unfold at1; simp only; omega) | (simp only; omega))
  have q1 := ChgSW.cell (S := fun k => k = w.heap.size) (ch_B5.2.1) (by first | (unfold at1; simp only; omega) | (simp only; omega))
  have q2 := ChgSW.cell (S := fun k => k = w.heap.size) (ch_B5.2.2.1) (by first | (unfold at1; simp only; omega) | (simp only; omega))
  have q3 := ChgSW.cell (S := fun k => k = w.heap.size) (ch_B5.2.2.2) (by first | (unfold at1; simp only; omega) | (simp only; omega))
  clear ch_B5
  simp only [wpBlocksX, pickOps, PK]
  have hch : Chg (fun k => k = w.heap.size) w2 w2.drew := Chg.ofExt (Ext.refl w2).drew
  replace B2 := Ext.block ((Ext.refl w2).drew) B2
  replace B3 := Ext.block ((Ext.refl w2).drew) B3
  replace B5 := Ext.block ((Ext.refl w2).drew) B5
  replace RP := Own.ext RP ((Ext.refl w2).drew)
  replace u_RP := Nat.le_trans u_RP ((Ext.refl w2).drew).size
  replace s := s.ext ((Ext.refl w2).drew)
  obtain ⟨wt, hnw⟩ : ∃ wn, wn = w2.drew := ⟨_, rfl⟩
  rw [← hnw] at B2 B3 B5 RP u_RP s hch ⊢
  clear hnw
  repeat (first | go_big_quiet_step (fail) | quiet_step (fail))
  refine wpQuiet_nil ?_
  go_wp2_with fail
  have hbs : w1.heap.size ≤ wt.heap.size := s.x.size
  have ltq_B2 : w.heap.size < wt.heap.size := blk_lt B2
  have ltq_B3 : (w.heap.size + 1) < wt.heap.size := blk_lt B3
  have ltq_B5 : b5 < wt.heap.size := blk_lt B5
  refine (s_l21Copy x _ _ (OwnF.rd (hf := Hop.flen) RP.1) (by omega)).mono ?_
  rintro e w3 ⟨vq, rfl, OY, hzq⟩
  replace B2 := Ext.block hzq B2
  replace B3 := Ext.block hzq B3
  replace B5 := Ext.block hzq B5
  replace RP := Own.ext RP hzq
  replace u_RP := Nat.le_trans u_RP hzq.size
  replace s := s.ext hzq
  replace hch := hch.trans ((Chg.ofExt hzq))
  have RY : (Own.flat Hop.f 5 Hop.flen 146).own (rng wt.heap.size w3.heap.size) w3 vq x.hops := Own.ofF (hf := Hop.flen) (OwnF.mono OY (by omega))
  clear OY
  obtain ⟨oy_, cy_, rfl, _⟩ := (OwnF.rd (hf := Hop.flen) RY.1).shape
  have g_RY : g < wt.heap.size := by omega
  have u_RY : w3.heap.size ≤ w3.heap.size := by omega
  have lt_B2_RY : w.heap.size < wt.heap.size := by omega
  have lt_B3_RY : (w.heap.size + 1) < wt.heap.size := by omega
  have lt_B5_RY : b5 < wt.heap.size := by omega
  clear hzq hbs ltq_B2 ltq_B3 ltq_B5
  go_wp2_with fail
  refine ⟨⟨⟨_, hch⟩, rfl⟩, ?_⟩
  repeat (first | go_big_quiet_step (fail) | quiet_step (fail))
  refine wpQuiet_nil ?_
  have hxe := hx0.trans (hn1.ofCur s.x hgl)
  obtain ⟨wpa, hwa, hba, hca⟩ := four_setP B2 (.int .i64 x.kind) (.int .i64 x.ts) (.int .i64 x.beta) (.slice op_ x.hops.length cp_)
  have HWa := Lib.hid hwa
  clear hwa
  have ff0 := fr_of B2 0
  have ff1 := fr_of B2 1
  have ff2 := fr_of B2 2
  have ff3 := fr_of B2 3
  have cb := blk4 B2
  go_wp2_with fail
  rw [← HWa.out]
  clear HWa cb ff0 ff1 ff2 ff3
  replace hch := hch.trans (hca.mono (fun b h => h))
  refine ⟨⟨⟨_, hch⟩, rfl⟩, ?_⟩
  replace RP := Own.at1g RP hca (by omega)
  replace u_RP := Nat.le_trans u_RP hca.size
  replace RY := Own.at1g RY hca (by omega)
  replace u_RY := Nat.le_trans u_RY hca.size
  replace B3 := hca.blkS B3 (by unfold at1; omega)
  replace B5 := hca.blkS B5 (by unfold at1; omega)
  replace B2 := hba
  clear hba
  replace hxe := hxe.chg hca (fun i hi => by have h1 : i = w.heap.size := hi; omega)
  try clear hca
  repeat (first | go_big_quiet_step (fail) | quiet_step (fail))
  refine wpQuiet_nil ?_
  obtain ⟨wpb, hwb, hbb, hcb⟩ := four_setP B3 (.int .i64 x.kind) (.int .i64 x.ts) (.int .i64 x.beta) (.slice oy_ x.hops.length cy_)
  have HWb := Lib.hid hwb
  clear hwb
  have ff0 := fr_of B3 0
  have ff1 := fr_of B3 1
  have ff2 := fr_of B3 2
  have ff3 := fr_of B3 3
  have cb := blk4 B3
  go_wp2_with fail
  rw [← HWb.out]
  clear HWb cb ff0 ff1 ff2 ff3
  replace RP := Own.at1g RP hcb (by omega)
  replace u_RP := Nat.le_trans u_RP hcb.size
  replace RY := Own.at1g RY hcb (by omega)
  replace u_RY := Nat.le_trans u_RY hcb.size
  replace B2 := hcb.blkS B2 (by unfold at1; omega)
  replace B5 := hcb.blkS B5 (by unfold at1; omega)
  replace B3 := hbb
  clear hbb
  replace hxe := hxe.chg hcb (fun i hi => by have h1 : i = (w.heap.size + 1) := hi; omega)
  try clear hcb
  refine NoPanic.normal ?_
  clear hch q0 q1 q2 q3
  have cr_B2 := blk4 B2
  have cr_B3 := blk4 B3
  have cr_B5 := blk4 B5
  have hwb := (hx0.trans hn1).size
  go_wp2_with fail
  refine bodyPost_ret (v := .tuple #[.agg #[.int .i64 x.kind, .int .i64 x.ts, .int .i64 x.beta, .slice op_ x.hops.length cp_], .agg #[.int .i64 x.kind, .int .i64 x.ts, .int .i64 x.beta, .slice oy_ x.hops.length cy_]]) (by simp [results, Try.results31, go_sem, cr_B2, cr_B3]) rfl ?_
  exact ⟨_, _, x, x, rfl, hx6, hx6, OwnF.rd (hf := Hop.flen) RP.1, OwnF.rd (hf := Hop.flen) RY.1, hxe⟩

set_option maxRecDepth 100000 in
set_option maxHeartbeats 4000000 in
theorem s_DrawIsReversed (code : List Int) (cv : Value) (w : World) (hr : RdS Rep.byte w cv code) (hu : ∀ x ∈ code, U8 x) (hl : code.length ≤ 1048576) :
  Calls Try.prog 32 #[cv] w fun e w' => ∃ n : Int, e = .returned (.int .i64 n) ∧ Ext w w' := by
 have hx0 := Ext.refl w
 go_enter Try.func32, Try.ntmps32
 go_wp2_with fail
 refine (s_l1New code _ _ (hr.ext hx0) hu hl).mono ?_
 rintro e w1 ⟨g, rfl, hgl, hc1, hn1⟩
 have hgw := hc1.lt
 have s : DSt g cv code w1 w1 := ⟨hc1, Chg.refl _ _, hc1⟩
 clear hc1
 go_wp2_with fail
 refine (s_l1Below g (6) _ _ _ s.c).mono ?_
 rintro e w2 ⟨nw, rfl, hn0, hn1b, hcq, hzq⟩
 replace s := s.draw hcq hzq
 clear hzq hcq
 have hxe := hx0.trans (hn1.ofCur s.x hgl)
 go_wp2_with fail
 go_ret
 exact ⟨_, rfl, hxe⟩

end Go.Proofs.Ytikbeiafobnblaa
