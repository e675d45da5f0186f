/- The draw of shares, a path and a rate. No condition. -/
import Derived.Test.YtpijlnfjdajeeaaKQ36
namespace Go.Proofs.Ytpijlnfjdajeeaa
open Go.ChangeShapes Go.WideShapes Go.ChangeAt Go.RowKit Go.Deep

theorem admit_mem {l : List Resv} {x y : Resv} {c now : Int} (h : y ∈ (admit l x c now).1) : y = x ∨ y ∈ l := by
 cases hr : refused l x c now
 ·
  rw [admit_yes hr] at h
  rcases List.mem_append.1 h with h | h
  ·
   exact .inr (List.mem_filter.1 h).1
  ·
   exact .inl (List.mem_singleton.1 h)
 ·
  rw [admit_no hr] at h; exact .inr h

set_option maxRecDepth 100000 in
set_option maxHeartbeats 20000000 in
theorem s_DrawLeasing (code : List Int) (cv : Value) (w : World) (hr : RdS Rep.byte w cv code) (hu : ∀ x ∈ code, U8 x) (hl : code.length ≤ 1048576) :
  Calls Try.prog 17 #[cv] w fun e w' => ∃ (vl vp : Value) (l : List Resv) (p : Pth) (n : Int), e = .returned (.tuple #[vl, .agg #[vp], .int .i64 n]) ∧ l.length ≤ 40 ∧ (∀ z ∈ l, z.id ≤ 5 ∧ 0 ≤ z.rate ∧ z.rate ≤ 20) ∧ 1 ≤ n ∧ n ≤ 8 ∧ p.parts.length ≤ 4 ∧ (∀ x ∈ p.parts, x.hops.length ≤ 5) ∧ RdS Resv.rep w' vl l ∧ RdS Part.rep w' vp p.parts ∧ Ext w w' := by
 have hx0 : Ext w (w.alloc (.cells #[.slice none 0 0] 46)) := (Ext.refl _).alloc _
 have HB := blk_new w (.cells #[.slice none 0 0] 46)
 go_enter Try.func17, Try.ntmps17
 go_wp2_with fail
 refine (s_l22One code _ _ (hr.ext hx0) hu hl).mono ?_
 rintro e w1 ⟨g, lo1, v1, v2, vp, t, p, rfl, TK, hp4, hx5, RA, RL, RP, hgl, hglo, hc1, hn1⟩
 have hgw := hc1.lt
 have s : DSt g cv code w1 w1 := ⟨hc1, Chg.refl _ _, hc1⟩
 have B3 := Ext.block hn1 HB
 have hgr : w.heap.size < g := by simp at hgl; omega
 clear HB
 have g_RA : g < lo1 := hglo
 have u_RA : w1.heap.size ≤ w1.heap.size := Nat.le_refl _
 have lt_B3_RA : w.heap.size < lo1 := by omega
 have g_RL : g < lo1 := hglo
 have u_RL : w1.heap.size ≤ w1.heap.size := Nat.le_refl _
 have lt_B3_RL : w.heap.size < lo1 := by omega
 have g_RP : g < lo1 := hglo
 have u_RP : w1.heap.size ≤ w1.heap.size := Nat.le_refl _
 have lt_B3_RP : w.heap.size < lo1 := by omega
 obtain ⟨o1, c1, rfl, _⟩ := RdS.shape (Own.rd _ RA)
 obtain ⟨o2, c2, rfl, _⟩ := RdS.shape (Own.rd _ RL)
 obtain ⟨op_, cp_, rfl, _⟩ := RdS.shape (Own.rd _ RP)
 clear hc1
 have cb_B3 := blk1 B3
 go_upto_region 2 with (fail)
 clear cb_B3
 have hxa := ext2 w1 (.cells #[.slice o1 t.ases.length c1, .slice o2 t.links.length c2] 41) (.cells #[.slice op_ p.parts.length cp_] 46)
 have BB := al2 w1 (.cells #[.slice o1 t.ases.length c1, .slice o2 t.links.length c2] 41) (.cells #[.slice op_ p.parts.length cp_] 46)
 obtain ⟨b6, eb6⟩ : ∃ b, b = w1.heap.size := ⟨_, rfl⟩
 have ltw_b6 : w1.heap.size ≤ b6 := by rw [eb6]; exact s.x.size
 have lt_B3_b6 : w.heap.size < b6 := by rw [eb6]; exact blk_lt B3
 have hb_RA_b6 : w1.heap.size ≤ b6 := by rw [eb6]; exact u_RA
 have hb_RL_b6 : w1.heap.size ≤ b6 := by rw [eb6]; exact u_RL
 have hb_RP_b6 : w1.heap.size ≤ b6 := by rw [eb6]; exact u_RP
 replace B3 := Ext.block hxa B3
 replace RA := Own.ext RA hxa
 replace u_RA := Nat.le_trans u_RA hxa.size
 replace RL := Own.ext RL hxa
 replace u_RL := Nat.le_trans u_RL hxa.size
 replace RP := Own.ext RP hxa
 replace u_RP := Nat.le_trans u_RP hxa.size
 replace s := s.ext hxa
 have B6 := BB.1
 have B7 := BB.2
 rw [← eb6] at B6 B7
 rw [← eb6]
 clear hxa BB
 generalize ((w1.alloc (.cells #[.slice o1 t.ases.length c1, .slice o2 t.links.length c2] 41)).alloc (.cells #[.slice op_ p.parts.length cp_] 46)) = wa at B3 B6 B7 RA RL RP u_RA u_RL u_RP s ⊢
 clear eb6
 clear B6
 clear u_RA g_RA
 clear RA
 clear u_RL g_RL
 clear RL
 have cb_B3 := blk1 B3
 have cb_B7 := blk1 B7
 go_upto_region 3 with (fail)
 clear cb_B3 cb_B7
 have hgwa : g + 1 ≤ wa.heap.size := by have h1 := s.x.size; omega
 have hxa : Ext wa (wa.alloc (.cells #[] 141)) := (Ext.refl _).alloc _
 have RQ : (Own.flat Resv.f 5 Resv.flen 141).own (rng (g + 1) (wa.alloc (.cells #[] 141)).heap.size) (wa.alloc (.cells #[] 141)) (.slice (some ⟨wa.heap.size, 0, none⟩) 0 0) [] := Own.lo (Own.ofF (OwnF.empty Resv.f 5 wa.heap.size 141 wa (Nat.le_refl _))) hgwa
 have g_RQ : g < g + 1 := Nat.lt_succ_self g
 have u_RQ := Nat.le_refl (wa.alloc (.cells #[] 141)).heap.size
 replace B3 := Ext.block hxa B3
 replace B7 := Ext.block hxa B7
 replace RP := Own.ext RP hxa
 replace u_RP := Nat.le_trans u_RP hxa.size
 replace s := s.ext hxa
 generalize wa.alloc (.cells #[] 141) = wb at B3 B7 RP RQ u_RP u_RQ s ⊢
 clear hxa
 have cb_B3 := blk1 B3
 have cb_B7 := blk1 B7
 go_wp2_with fail
 clear cb_B3 cb_B7
 refine (s_l1Below g (8) _ _ _ s.c).mono ?_
 rintro e w2 ⟨n, rfl, hn0, hn9, hcq, hzq⟩
 replace B3 := hzq.blkS B3 (by unfold at1; omega)
 replace B7 := hzq.blkS B7 (by unfold at1; omega)
 replace RP := Own.at1g RP hzq (.inl g_RP)
 replace u_RP := Nat.le_trans u_RP hzq.size
 replace RQ := Own.at1g RQ hzq (.inl g_RQ)
 replace u_RQ := Nat.le_trans u_RQ hzq.size
 replace s := s.draw hcq hzq
 have hn8 : n ≤ 8 := by omega
 clear hn9
 obtain ⟨m, rfl⟩ := Int.eq_ofNat_of_zero_le hn0
 clear hzq hcq
 have cb_B3 := blk1 B3
 have cb_B7 := blk1 B7
 go_wp2_with fail
 clear cb_B3 cb_B7
 go_loopg [8, 9] m (fun gk out i wr => ∃ (k : Nat) (l : List Resv) (hi : Nat), gk = k ∧ Hid (k ≤ 8) ∧ i = .int .i64 k ∧ Hid (l.length ≤ 40) ∧ Hid (∀ z ∈ l, z.id ≤ 5 ∧ 0 ≤ z.rate ∧ z.rate ≤ 20) ∧ wr.heap[w.heap.size]? = some (.cells #[.slice none 0 0] 46 (0, 0)) ∧ wr.heap[b6 + 1]? = some (.cells #[.slice op_ p.parts.length cp_] 46 (0, 0)) ∧ ((Own.keep Part.rep).own (rng lo1 w1.heap.size) wr (.slice op_ p.parts.length cp_) p.parts ∧ w1.heap.size ≤ wr.heap.size) ∧ ((Own.flat Resv.f 5 Resv.flen 141).own (rng (g + 1) hi) wr out l ∧ hi ≤ wr.heap.size) ∧ Cur g cv code wr ∧ Chg (at1 g) w1 wr)
 case atStart => exact ⟨m, [], _, rfl, Lib.hid (by omega), rfl, Lib.hid (by simp), Lib.hid (by simp), B3, B7, ⟨RP, u_RP⟩, ⟨RQ, u_RQ⟩, s.c, s.x⟩
 case round =>
  have hc0z := s.c0
  clear s B3 B7 RP u_RP RQ u_RQ
  obtain ⟨k, l, hi, hgk, HK8, rfl, HL, HB, B3, B7, ⟨RP, u_RP⟩, ⟨RQ, u_RQ⟩, hcC, hcX⟩ := hrel
  obtain ⟨wz, hwz⟩ : ∃ wz : World, wz = wr := ⟨_, rfl⟩
  subst hwz
  have s : DSt g cv code w1 wz := ⟨hcC, hcX, hc0z⟩
  clear hcC hcX hc0z
  have HGK := Lib.hid hgk
  clear hgk
  by_cases hk0 : 0 < k
  ·
   have hk1 : (0 : Int) < k := by omega
   have cb_B3 := blk1 B3
   have cb_B7 := blk1 B7
   go_wp2_with fail
   clear cb_B3 cb_B7
   refine (s_l32Share g _ _ _ s.c).mono ?_
   rintro e w3 ⟨x, rfl, h1, h2, h3, h4, h5, h6, h7, h8, h9, h10, hcq, hzq⟩
   replace B3 := hzq.blkS B3 (by unfold at1; omega)
   replace B7 := hzq.blkS B7 (by unfold at1; omega)
   replace RP := Own.at1g RP hzq (.inl g_RP)
   replace u_RP := Nat.le_trans u_RP hzq.size
   replace RQ := Own.at1g RQ hzq (.inl g_RQ)
   replace u_RQ := Nat.le_trans u_RQ hzq.size
   replace s := s.draw hcq hzq
   have hxb : x.id ≤ 5 ∧ 0 ≤ x.rate ∧ x.rate ≤ 20 := by omega
   clear h1 h2 h3 h4 h5 h6 h7 h8 h9 h10
   clear hzq hcq
   have hszl : g + 1 ≤ w3.heap.size := s.c.lt
   have cb_B3 := blk1 B3
   have cb_B7 := blk1 B7
   go_wp2_with fail
   clear cb_B3 cb_B7
   refine (s_Admit l _ x 8 45 _ (Own.rd _ RQ) (by have h1 := HL.out; omega)).mono ?_
   rintro e w4 ⟨v2, rfl, ho2, hzq⟩
   replace B3 := Ext.block hzq B3
   replace B7 := Ext.block hzq B7
   replace RP := Own.ext RP hzq
   replace u_RP := Nat.le_trans u_RP hzq.size
   replace RQ := Own.ext RQ hzq
   replace u_RQ := Nat.le_trans u_RQ hzq.size
   replace s := s.ext hzq
   clear hzq
   have RN : (Own.flat Resv.f 5 Resv.flen 141).own (rng (g + 1) w4.heap.size) w4 v2 (admit l x 8 45).1 := Own.lo (Own.ofF ho2) hszl
   have HMX := Lib.hid (admit_max40 l x 8 45 HL.out)
   have HBN : Hid (∀ z ∈ (admit l x 8 45).1, z.id ≤ 5 ∧ 0 ≤ z.rate ∧ z.rate ≤ 20) := Lib.hid (fun y hy => by rcases admit_mem hy with h | h; rw [h]; exact hxb; exact HB.out y h)
   clear ho2 hszl
   have cb_B3 := blk1 B3
   have cb_B7 := blk1 B7
   go_wp2_with fail
   clear cb_B3 cb_B7
   go_roundg (k - 1)
   case measure => have h1 := HGK.out; omega
   case rel => exact ⟨k - 1, _, _, rfl, Lib.hid (by have h1 := HK8.out; omega), congrArg (Value.int .i64) (by have h1 := HK8.out; unfold wrap64; omega), HMX, HBN, B3, B7, ⟨RP, u_RP⟩, ⟨RN, Nat.le_refl _⟩, s.c, s.x⟩
  ·
   have hk1 : ¬ (0 : Int) < k := by omega
   obtain ⟨o_q, c_q, rfl, _⟩ := (Own.rd _ RQ).shape
   have cb_B3 := blk1 B3
   have cb_B7 := blk1 B7
   go_upto_region 7 with (fail)
   clear cb_B3 cb_B7
   refine wp_region_fin (fun k => k = g ∨ k = w.heap.size) [([0, 1, 2], 3), ([4, 5], 6)] [7] [] (by kernel_rfl) (by kernel_rfl) (by kernel_rfl) ?_
   have ch_B7 := blk1 B7
   have q0 := ChgSW.cell (S := fun k => k = g ∨ k = w.heap.size) (ch_B7) (by first | (unfold at1; simp only; omega) | (simp only; omega))
   clear ch_B7
   simp only [wpBlocksX, pickOps, PK]
   have hch : Chg (fun k => k = g ∨ k = w.heap.size) wz wz.drew := Chg.ofExt (Ext.refl wz).drew
   replace B3 := Ext.block ((Ext.refl wz).drew) B3
   replace B7 := Ext.block ((Ext.refl wz).drew) B7
   replace RP := Own.ext RP ((Ext.refl wz).drew)
   replace u_RP := Nat.le_trans u_RP ((Ext.refl wz).drew).size
   replace RQ := Own.ext RQ ((Ext.refl wz).drew)
   replace u_RQ := Nat.le_trans u_RQ ((Ext.refl wz).drew).size
   replace s := s.ext ((Ext.refl wz).drew)
   obtain ⟨wt, hnw⟩ : ∃ wn, wn = wz.drew := ⟨_, rfl⟩
   rw [← hnw] at B3 B7 RP RQ u_RP u_RQ s hch ⊢
   clear hnw
   repeat (first | go_big_quiet_step (fail) | quiet_step (fail))
   refine wpQuiet_nil ?_
   go_wp2_with fail
   refine (s_l1Below g (8) _ _ _ s.c).mono ?_
   rintro e w3 ⟨nb, rfl, hb0, hb1, hcq, hzq⟩
   replace B3 := hzq.blkS B3 (by unfold at1; omega)
   replace B7 := hzq.blkS B7 (by unfold at1; omega)
   replace RP := Own.at1g RP hzq (.inl g_RP)
   replace u_RP := Nat.le_trans u_RP hzq.size
   replace RQ := Own.at1g RQ hzq (.inl g_RQ)
   replace u_RQ := Nat.le_trans u_RQ hzq.size
   replace s := s.draw hcq hzq
   replace hch := hch.trans (hzq.mono (fun b h => .inl h))
   clear hzq hcq
   go_wp2_with fail
   refine ⟨⟨⟨_, hch⟩, rfl⟩, ?_⟩
   repeat (first | go_big_quiet_step (fail) | quiet_step (fail))
   refine wpQuiet_nil ?_
   have hxe := hx0.trans (hn1.ofCur s.x hgl)
   obtain ⟨wpb, hwb, hbb, hcb⟩ := set1 B3 (.slice op_ p.parts.length cp_)
   have HWb := Lib.hid hwb
   clear hwb
   have ff0 := fr_of B3 0
   have cb := blk1 B3
   go_wp2_with fail
   rw [← HWb.out]
   clear HWb cb ff0
   replace hch := hch.trans (hcb.mono (fun b h => .inr h))
   refine ⟨⟨⟨_, hch⟩, rfl⟩, ?_⟩
   replace RP := Own.at1g RP hcb (by omega)
   replace u_RP := Nat.le_trans u_RP hcb.size
   replace RQ := Own.at1g RQ hcb (by omega)
   replace u_RQ := Nat.le_trans u_RQ hcb.size
   replace B7 := hcb.blkS B7 (by unfold at1; omega)
   replace B3 := hbb
   clear hbb
   replace hxe := hxe.chg hcb (fun i hi => by have h1 : i = w.heap.size := hi; omega)
   try clear hcb
   repeat (first | go_big_quiet_step (fail) | quiet_step (fail))
   refine wpQuiet_nil ?_
   refine NoPanic.normal ?_
   clear hch q0
   have cr_B3 := blk1 B3
   have cr_B7 := blk1 B7
   have hwb := (hx0.trans hn1).size
   go_wp2_with fail
   refine bodyPost_ret (v := .tuple #[.slice o_q l.length c_q, .agg #[.slice op_ p.parts.length cp_], .int .i64 (1 + nb)]) (by simp [results, Try.results17, go_sem, cr_B3]) rfl ?_
   exact ⟨_, _, l, p, 1 + nb, rfl, HL.out, HB.out, by omega, by omega, hp4, hx5, Own.rd _ RQ, Own.rd _ RP, hxe⟩

end Go.Proofs.Ytpijlnfjdajeeaa
