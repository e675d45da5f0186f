/- The draws of the code: a segment that may be handed on, and what ends it. No condition. -/
import Derived.Test.YtcpfmhgfaliemaaKNxFin
import Derived.Test.YtcpfmhgfaliemaaKN20
import Derived.Test.YtcpfmhgfaliemaaKN23
namespace Go.Proofs.Ytcpfmhgfaliemaa
open Go.ChangeShapes Go.WideShapes Go.ChangeAt Go.RowKit Go.Deep

theorem keep_take {S : Nat → Prop} {w : World} {b off c : Nat} {l : List Hop} (h : (Own.keep Hop.rep).own S w (.slice (some ⟨b, off, none⟩) l.length c) l) {k : Nat} (hk : k ≤ l.length) : (Own.keep Hop.rep).own S w (.slice (some ⟨b, off, none⟩) k c) (l.take k) := fun w' x => by
 have h1 := (h w' x).part 0 k (Nat.zero_le _) hk
 simpa only [Nat.zero_mul, Nat.add_zero, Nat.sub_zero, List.drop_zero] using h1

set_option maxRecDepth 100000 in
set_option maxHeartbeats 40000000 in
theorem s_l13Open (g : Nat)  (cv : Value) (cd : List Int) (w : World) (hc : Cur g cv cd w) :
  Calls Try.prog 44 #[.pointer (some ⟨g, 0, none⟩)] w fun e w' => ∃ (v1 v2 v : Value) (t : Topo) (a : Seg) (r inn : Int), e = .returned (.tuple #[.agg #[v1, v2], .agg #[.int .i64 a.ts, .int .i64 a.beta, v], .int .i64 r, .int .i64 inn]) ∧ TopoOk t ∧ a.hops.length ≤ 5 ∧ (Own.keep ASd.rep).own (rng w.heap.size w'.heap.size) w' v1 t.ases ∧ (Own.keep Lnk.rep).own (rng w.heap.size w'.heap.size) w' v2 t.links ∧ (Own.keep Hop.rep).own (rng w.heap.size w'.heap.size) w' v a.hops ∧ Cur g cv cd w' ∧ Chg (at1 g) w w' := by
 have hx0 := ext2 w (.cells #[.slice none 0 0, .slice none 0 0] 41) (.cells #[.int .i64 0, .int .i64 0, .slice none 0 0] 60)
 have HB := al2 w (.cells #[.slice none 0 0, .slice none 0 0] 41) (.cells #[.int .i64 0, .int .i64 0, .slice none 0 0] 60)
 have hgw := hc.lt
 have s : DSt g cv cd w ((w.alloc (.cells #[.slice none 0 0, .slice none 0 0] 41)).alloc (.cells #[.int .i64 0, .int .i64 0, .slice none 0 0] 60)) := ⟨hc.ext hx0, Chg.ofExt hx0, hc⟩
 have B2 := HB.1
 have B3 := HB.2
 clear HB hx0
 go_enter Try.func44, Try.ntmps44
 go_wp2_with fail
 have hbs : w.heap.size ≤ ((w.alloc (.cells #[.slice none 0 0, .slice none 0 0] 41)).alloc (.cells #[.int .i64 0, .int .i64 0, .slice none 0 0] 60)).heap.size := s.x.size
 have ltq_B2 : w.heap.size < ((w.alloc (.cells #[.slice none 0 0, .slice none 0 0] 41)).alloc (.cells #[.int .i64 0, .int .i64 0, .slice none 0 0] 60)).heap.size := blk_lt B2
 have ltq_B3 : (w.heap.size + 1) < ((w.alloc (.cells #[.slice none 0 0, .slice none 0 0] 41)).alloc (.cells #[.int .i64 0, .int .i64 0, .slice none 0 0] 60)).heap.size := blk_lt B3
 refine (s_l9Draw g _ _ _ s.c).mono ?_
 rintro e w1 ⟨v1, v2, va, t, kd, a, rfl, TK, SD, OA, OL, OH, hcq, hzq⟩
 replace B2 := hzq.blkS B2 (by unfold at1; omega)
 replace B3 := hzq.blkS B3 (by unfold at1; omega)
 replace s := s.draw hcq hzq
 have RA : (Own.keep ASd.rep).own (rng ((w.alloc (.cells #[.slice none 0 0, .slice none 0 0] 41)).alloc (.cells #[.int .i64 0, .int .i64 0, .slice none 0 0] 60)).heap.size w1.heap.size) w1 v1 t.ases := Own.toKeep (Own.ofFr (hf := ASd.flen) OA (Nat.le_refl _))
 clear OA
 have RL : (Own.keep Lnk.rep).own (rng ((w.alloc (.cells #[.slice none 0 0, .slice none 0 0] 41)).alloc (.cells #[.int .i64 0, .int .i64 0, .slice none 0 0] 60)).heap.size w1.heap.size) w1 v2 t.links := Own.toKeep (Own.ofFr (hf := Lnk.flen) OL (Nat.le_refl _))
 clear OL
 have RH : (Own.keep Hop.rep).own (rng ((w.alloc (.cells #[.slice none 0 0, .slice none 0 0] 41)).alloc (.cells #[.int .i64 0, .int .i64 0, .slice none 0 0] 60)).heap.size w1.heap.size) w1 va a.hops := Own.toKeep (Own.ofFr (hf := Hop.flen) OH (Nat.le_refl _))
 clear OH
 obtain ⟨o1, c1, rfl, _⟩ := RdS.shape (Own.rd _ RA)
 obtain ⟨o2, c2, rfl, _⟩ := RdS.shape (Own.rd _ RL)
 obtain ⟨o_a, c_a, rfl, _⟩ := RdS.shape (Own.rd _ RH)
 have hl5 := SD.len
 clear SD
 have g_RA : g < ((w.alloc (.cells #[.slice none 0 0, .slice none 0 0] 41)).alloc (.cells #[.int .i64 0, .int .i64 0, .slice none 0 0] 60)).heap.size := by omega
 have u_RA : w1.heap.size ≤ w1.heap.size := by omega
 have lt_B2_RA : w.heap.size < ((w.alloc (.cells #[.slice none 0 0, .slice none 0 0] 41)).alloc (.cells #[.int .i64 0, .int .i64 0, .slice none 0 0] 60)).heap.size := by omega
 have lt_B3_RA : (w.heap.size + 1) < ((w.alloc (.cells #[.slice none 0 0, .slice none 0 0] 41)).alloc (.cells #[.int .i64 0, .int .i64 0, .slice none 0 0] 60)).heap.size := by omega
 have g_RL : g < ((w.alloc (.cells #[.slice none 0 0, .slice none 0 0] 41)).alloc (.cells #[.int .i64 0, .int .i64 0, .slice none 0 0] 60)).heap.size := by omega
 have u_RL : w1.heap.size ≤ w1.heap.size := by omega
 have lt_B2_RL : w.heap.size < ((w.alloc (.cells #[.slice none 0 0, .slice none 0 0] 41)).alloc (.cells #[.int .i64 0, .int .i64 0, .slice none 0 0] 60)).heap.size := by omega
 have lt_B3_RL : (w.heap.size + 1) < ((w.alloc (.cells #[.slice none 0 0, .slice none 0 0] 41)).alloc (.cells #[.int .i64 0, .int .i64 0, .slice none 0 0] 60)).heap.size := by omega
 have g_RH : g < ((w.alloc (.cells #[.slice none 0 0, .slice none 0 0] 41)).alloc (.cells #[.int .i64 0, .int .i64 0, .slice none 0 0] 60)).heap.size := by omega
 have u_RH : w1.heap.size ≤ w1.heap.size := by omega
 have lt_B2_RH : w.heap.size < ((w.alloc (.cells #[.slice none 0 0, .slice none 0 0] 41)).alloc (.cells #[.int .i64 0, .int .i64 0, .slice none 0 0] 60)).heap.size := by omega
 have lt_B3_RH : (w.heap.size + 1) < ((w.alloc (.cells #[.slice none 0 0, .slice none 0 0] 41)).alloc (.cells #[.int .i64 0, .int .i64 0, .slice none 0 0] 60)).heap.size := by omega
 clear hzq hcq hbs ltq_B2 ltq_B3
 have cb_B2 := blk2 B2
 have cb_B3 := blk3 B3
 go_upto_region 2 with (fail)
 clear cb_B2 cb_B3
 have hxa := ext2 w1 (.cells #[.slice o1 t.ases.length c1, .slice o2 t.links.length c2] 41) (.cells #[.int .i64 a.ts, .int .i64 a.beta, .slice o_a a.hops.length c_a] 60)
 have BB := al2 w1 (.cells #[.slice o1 t.ases.length c1, .slice o2 t.links.length c2] 41) (.cells #[.int .i64 a.ts, .int .i64 a.beta, .slice o_a a.hops.length c_a] 60)
 obtain ⟨b6, eb6⟩ : ∃ b, b = w1.heap.size := ⟨_, rfl⟩
 have ltw_b6 : w.heap.size ≤ b6 := by rw [eb6]; exact s.x.size
 have lt_B2_b6 : w.heap.size < b6 := by rw [eb6]; exact blk_lt B2
 have lt_B3_b6 : (w.heap.size + 1) < b6 := by rw [eb6]; exact blk_lt B3
 have hb_RA_b6 : w1.heap.size ≤ b6 := by rw [eb6]; exact u_RA
 have hb_RL_b6 : w1.heap.size ≤ b6 := by rw [eb6]; exact u_RL
 have hb_RH_b6 : w1.heap.size ≤ b6 := by rw [eb6]; exact u_RH
 replace B2 := Ext.block hxa B2
 replace B3 := Ext.block hxa B3
 replace RA := Own.ext RA hxa
 replace u_RA := Nat.le_trans u_RA hxa.size
 replace RL := Own.ext RL hxa
 replace u_RL := Nat.le_trans u_RL hxa.size
 replace RH := Own.ext RH hxa
 replace u_RH := Nat.le_trans u_RH hxa.size
 replace s := s.ext hxa
 have B6 := BB.1
 have B7 := BB.2
 rw [← eb6] at B6 B7
 rw [← eb6]
 clear hxa BB
 generalize ((w1.alloc (.cells #[.slice o1 t.ases.length c1, .slice o2 t.links.length c2] 41)).alloc (.cells #[.int .i64 a.ts, .int .i64 a.beta, .slice o_a a.hops.length c_a] 60)) = wa at B2 B3 B6 B7 RA RL RH u_RA u_RL u_RH s ⊢
 clear eb6
 have cb_B2 := blk2 B2
 have cb_B3 := blk3 B3
 have cb_B6 := blk2 B6
 have cb_B7 := blk3 B7
 go_wp2_with fail
 clear cb_B2 cb_B3 cb_B6 cb_B7
 go_loopg [8] 4 (fun gk s8 wx => ∃ (ty : Topo) (y : Seg) (o1y : Option Addr) (c1y : Nat) (o2y : Option Addr) (c2y : Nat) (o_ay : Option Addr) (c_ay : Nat) (lo : Nat) (hi : Nat) (i : Nat), (s8 = .int .i64 (i : Int)) ∧ (gk + i = 4) ∧ (TopoOk ty) ∧ (y.hops.length ≤ 5) ∧ (g < lo) ∧ (w.heap.size + 1 < lo) ∧ wx.heap[w.heap.size]? = some (.cells #[.slice none 0 0, .slice none 0 0] 41 (0, 0)) ∧ wx.heap[(w.heap.size + 1)]? = some (.cells #[.int .i64 0, .int .i64 0, .slice none 0 0] 60 (0, 0)) ∧ wx.heap[b6]? = some (.cells #[.slice o1y ty.ases.length c1y, .slice o2y ty.links.length c2y] 41 (0, 0)) ∧ wx.heap[(b6 + 1)]? = some (.cells #[.int .i64 y.ts, .int .i64 y.beta, .slice o_ay y.hops.length c_ay] 60 (0, 0)) ∧ ((Own.keep ASd.rep).own (rng lo hi) wx (.slice o1y ty.ases.length c1y) ty.ases ∧ hi ≤ wx.heap.size) ∧ ((Own.keep Lnk.rep).own (rng lo hi) wx (.slice o2y ty.links.length c2y) ty.links ∧ hi ≤ wx.heap.size) ∧ ((Own.keep Hop.rep).own (rng lo hi) wx (.slice o_ay y.hops.length c_ay) y.hops ∧ hi ≤ wx.heap.size) ∧ Cur g cv cd wx ∧ Chg (at1 g) w wx)
 case atStart => exact ⟨t, a, _, _, _, _, _, _, _, _, 0, rfl, rfl, TK, hl5, g_RA, lt_B3_RA, B2, B3, B6, B7, ⟨RA, u_RA⟩, ⟨RL, u_RL⟩, ⟨RH, u_RH⟩, s.c, s.x⟩
 case round =>
  have hc0z := s.c0
  clear s B2 B3 B6 B7 RA RL RH u_RA u_RL u_RH
  obtain ⟨ty, y, o1y, c1y, o2y, c2y, o_ay, c_ay, lo, hi, i, hs, hgi, TKy, hy5, hlo1, hlo2, B2, B3, B6, B7, ⟨RA, u_RA⟩, ⟨RL, u_RL⟩, ⟨RH, u_RH⟩, hcC, hcX⟩ := hrel
  obtain ⟨wz, hwz⟩ : ∃ wz : World, wz = wr := ⟨_, rfl⟩
  subst hwz
  have s : DSt g cv cd w wz := ⟨hcC, hcX, hc0z⟩
  clear hcC hcX hc0z
  obtain ⟨gq, hgq⟩ : ∃ gq : Nat, gq = gk := ⟨_, rfl⟩
  subst hgq
  subst hs
  clear TK hl5
  try clear g_RA lt_B2_RA lt_B3_RA
  try clear g_RL lt_B2_RL lt_B3_RL
  try clear g_RH lt_B2_RH lt_B3_RH
  have g_RA : g < lo := by omega
  have lt_B2_RA : w.heap.size < lo := by omega
  have lt_B3_RA : (w.heap.size + 1) < lo := by omega
  have g_RL : g < lo := by omega
  have lt_B2_RL : w.heap.size < lo := by omega
  have lt_B3_RL : (w.heap.size + 1) < lo := by omega
  have g_RH : g < lo := by omega
  have lt_B2_RH : w.heap.size < lo := by omega
  have lt_B3_RH : (w.heap.size + 1) < lo := by omega
  have cb_B2 := blk2 B2
  have cb_B3 := blk3 B3
  have cb_B6 := blk2 B6
  have cb_B7 := blk3 B7
  go_upto_region 3 with (fail)
  clear cb_B2 cb_B3 cb_B6 cb_B7
  go_cut [28] (fun vb wx => ∃ (bb : Bool), (vb = .bool bb) ∧ (bb = true → 0 < gq) ∧ wx.heap[w.heap.size]? = some (.cells #[.slice none 0 0, .slice none 0 0] 41 (0, 0)) ∧ wx.heap[(w.heap.size + 1)]? = some (.cells #[.int .i64 0, .int .i64 0, .slice none 0 0] 60 (0, 0)) ∧ wx.heap[b6]? = some (.cells #[.slice o1y ty.ases.length c1y, .slice o2y ty.links.length c2y] 41 (0, 0)) ∧ wx.heap[(b6 + 1)]? = some (.cells #[.int .i64 y.ts, .int .i64 y.beta, .slice o_ay y.hops.length c_ay] 60 (0, 0)) ∧ ((Own.keep ASd.rep).own (rng lo hi) wx (.slice o1y ty.ases.length c1y) ty.ases ∧ hi ≤ wx.heap.size) ∧ ((Own.keep Lnk.rep).own (rng lo hi) wx (.slice o2y ty.links.length c2y) ty.links ∧ hi ≤ wx.heap.size) ∧ ((Own.keep Hop.rep).own (rng lo hi) wx (.slice o_ay y.hops.length c_ay) y.hops ∧ hi ≤ wx.heap.size) ∧ Cur g cv cd wx ∧ Chg (at1 g) w wx)
  case first =>
   by_cases h4 : (i : Int) < 4
   ·
    have hg0 : 0 < gq := by omega
    by_cases h0 : y.hops.length = 0
    ·
     have h01 : ((y.hops.length : Int) == 0) = true := by rw [beq_iff_eq]; omega
     have HG0 := Lib.hid hg0
     clear h0 hg0
     have cb_B2 := blk2 B2
     have cb_B3 := blk3 B3
     have cb_B6 := blk2 B6
     have cb_B7 := blk3 B7
     go_wp2_with fail
     go_meet
     exact ⟨true, rfl, (fun _ => HG0.out), B2, B3, B6, B7, ⟨RA, u_RA⟩, ⟨RL, u_RL⟩, ⟨RH, u_RH⟩, s.c, s.x⟩
    ·
     have h01 : ((y.hops.length : Int) == 0) = false := by rw [beq_eq_false_iff_ne]; omega
     have HG0 := Lib.hid hg0
     clear h0 hg0
     have cb_B2 := blk2 B2
     have cb_B3 := blk3 B3
     have cb_B6 := blk2 B6
     have cb_B7 := blk3 B7
     go_wp2_with fail
     clear cb_B2 cb_B3 cb_B6 cb_B7
     refine (s_IsTerminated y _ _ (Own.rd _ RH)).mono ?_
     rintro e w2 ⟨rfl, hzq⟩
     replace B2 := Ext.block hzq B2
     replace B3 := Ext.block hzq B3
     replace B6 := Ext.block hzq B6
     replace B7 := Ext.block hzq B7
     replace RA := Own.ext RA hzq
     replace u_RA := Nat.le_trans u_RA hzq.size
     replace RL := Own.ext RL hzq
     replace u_RL := Nat.le_trans u_RL hzq.size
     replace RH := Own.ext RH hzq
     replace u_RH := Nat.le_trans u_RH hzq.size
     replace s := s.ext hzq
     clear hzq
     go_wp2_with fail
     go_meet
     exact ⟨(isTerm y), rfl, (fun _ => HG0.out), B2, B3, B6, B7, ⟨RA, u_RA⟩, ⟨RL, u_RL⟩, ⟨RH, u_RH⟩, s.c, s.x⟩
   ·
    have cb_B2 := blk2 B2
    have cb_B3 := blk3 B3
    have cb_B6 := blk2 B6
    have cb_B7 := blk3 B7
    go_wp2_with fail
    go_meet
    exact ⟨false, rfl, (fun h => by cases h), B2, B3, B6, B7, ⟨RA, u_RA⟩, ⟨RL, u_RL⟩, ⟨RH, u_RH⟩, s.c, s.x⟩
  case rest =>
   have hc0z := s.c0
   clear s B2 B3 B6 B7 RA RL RH u_RA u_RL u_RH
   obtain ⟨bb, hvb, hbb, B2, B3, B6, B7, ⟨RA, u_RA⟩, ⟨RL, u_RL⟩, ⟨RH, u_RH⟩, hcC, hcX⟩ := hcut
   obtain ⟨wz1, hwz⟩ : ∃ wz : World, wz = wc := ⟨_, rfl⟩
   subst hwz
   have s : DSt g cv cd w wz1 := ⟨hcC, hcX, hc0z⟩
   clear hcC hcX hc0z
   subst hvb
   cases bb
   case false =>
    clear hbb
    have cb_B2 := blk2 B2
    have cb_B3 := blk3 B3
    have cb_B6 := blk2 B6
    have cb_B7 := blk3 B7
    go_upto_region 8 with (fail)
    clear cb_B2 cb_B3 cb_B6 cb_B7
    go_cut [59] (fun vo wx => ∃ (bo : Bool), (vo = .bool bo) ∧ (bo = false → 0 < y.hops.length) ∧ wx.heap[w.heap.size]? = some (.cells #[.slice none 0 0, .slice none 0 0] 41 (0, 0)) ∧ wx.heap[(w.heap.size + 1)]? = some (.cells #[.int .i64 0, .int .i64 0, .slice none 0 0] 60 (0, 0)) ∧ wx.heap[b6]? = some (.cells #[.slice o1y ty.ases.length c1y, .slice o2y ty.links.length c2y] 41 (0, 0)) ∧ wx.heap[(b6 + 1)]? = some (.cells #[.int .i64 y.ts, .int .i64 y.beta, .slice o_ay y.hops.length c_ay] 60 (0, 0)) ∧ ((Own.keep ASd.rep).own (rng lo hi) wx (.slice o1y ty.ases.length c1y) ty.ases ∧ hi ≤ wx.heap.size) ∧ ((Own.keep Lnk.rep).own (rng lo hi) wx (.slice o2y ty.links.length c2y) ty.links ∧ hi ≤ wx.heap.size) ∧ ((Own.keep Hop.rep).own (rng lo hi) wx (.slice o_ay y.hops.length c_ay) y.hops ∧ hi ≤ wx.heap.size) ∧ Cur g cv cd wx ∧ Chg (at1 g) w wx)
    case first =>
     by_cases h0 : y.hops.length = 0
     ·
      have h01 : ((y.hops.length : Int) == 0) = true := by rw [beq_iff_eq]; omega
      clear h0
      have cb_B2 := blk2 B2
      have cb_B3 := blk3 B3
      have cb_B6 := blk2 B6
      have cb_B7 := blk3 B7
      go_wp2_with fail
      go_meet
      exact ⟨true, rfl, (fun h => by cases h), B2, B3, B6, B7, ⟨RA, u_RA⟩, ⟨RL, u_RL⟩, ⟨RH, u_RH⟩, s.c, s.x⟩
     ·
      have h01 : ((y.hops.length : Int) == 0) = false := by rw [beq_eq_false_iff_ne]; omega
      have HH0 := Lib.hid h0
      clear h0
      have cb_B2 := blk2 B2
      have cb_B3 := blk3 B3
      have cb_B6 := blk2 B6
      have cb_B7 := blk3 B7
      go_wp2_with fail
      clear cb_B2 cb_B3 cb_B6 cb_B7
      refine (s_l1Once g (8) _ _ _ s.c).mono ?_
      rintro e w2 ⟨bx, rfl, hcq, hzq⟩
      replace B2 := hzq.blkS B2 (by unfold at1; omega)
      replace B3 := hzq.blkS B3 (by unfold at1; omega)
      replace B6 := hzq.blkS B6 (by unfold at1; omega)
      replace B7 := hzq.blkS B7 (by unfold at1; omega)
      replace RA := Own.at1g RA hzq (.inl g_RA)
      replace u_RA := Nat.le_trans u_RA hzq.size
      replace RL := Own.at1g RL hzq (.inl g_RL)
      replace u_RL := Nat.le_trans u_RL hzq.size
      replace RH := Own.at1g RH hzq (.inl g_RH)
      replace u_RH := Nat.le_trans u_RH hzq.size
      replace s := s.draw hcq hzq
      clear hzq hcq
      go_wp2_with fail
      go_meet
      exact ⟨bx, rfl, (fun _ => Nat.pos_of_ne_zero HH0.out), B2, B3, B6, B7, ⟨RA, u_RA⟩, ⟨RL, u_RL⟩, ⟨RH, u_RH⟩, s.c, s.x⟩
    case rest =>
     have hc0z := s.c0
     clear s B2 B3 B6 B7 RA RL RH u_RA u_RL u_RH
     obtain ⟨bo, hvo, hbo, B2, B3, B6, B7, ⟨RA, u_RA⟩, ⟨RL, u_RL⟩, ⟨RH, u_RH⟩, hcC, hcX⟩ := hcut
     obtain ⟨wz2, hwz⟩ : ∃ wz : World, wz = wc := ⟨_, rfl⟩
     subst hwz
     have s : DSt g cv cd w wz2 := ⟨hcC, hcX, hc0z⟩
     clear hcC hcX hc0z
     subst hvo
     cases bo
     case false =>
      have hy0 := hbo rfl
      clear hbo
      obtain ⟨bh, offh, rfl, hcq9⟩ := Hop.at (Own.rd _ RH) (y.hops.length - 1) (by omega)
      obtain ⟨hd, hhd⟩ : ∃ hd, hd = y.hops[y.hops.length - 1] := ⟨_, rfl⟩
      rw [← hhd] at hcq9
      have hle : ((y.hops.length - 1 : Nat) : Int) = (y.hops.length : Int) - 1 := by omega
      have hl1 : (0 : Int) ≤ (y.hops.length : Int) - 1 := by omega
      have hl2 : ((y.hops.length : Int) - 1).toNat = y.hops.length - 1 := by omega
      clear hhd
      have cb_B2 := blk2 B2
      have cb_B3 := blk3 B3
      have cb_B6 := blk2 B6
      have cb_B7 := blk3 B7
      go_upto_region 11 with (fail)
      clear cb_B2 cb_B3 cb_B6 cb_B7
      have hxa : Ext wz2 (wz2.alloc (.cells #[.int .i64 hd.asn, .int .i64 hd.ing, .int .i64 hd.eg, .int .i64 hd.exp, .int .i64 hd.mac] 108)) := (Ext.refl _).alloc _
      have BB := blk_new wz2 (.cells #[.int .i64 hd.asn, .int .i64 hd.ing, .int .i64 hd.eg, .int .i64 hd.exp, .int .i64 hd.mac] 108)
      obtain ⟨b9, eb9⟩ : ∃ b, b = wz2.heap.size := ⟨_, rfl⟩
      have ltw_b9 : w.heap.size ≤ b9 := by rw [eb9]; exact s.x.size
      have lt_B2_b9 : w.heap.size < b9 := by rw [eb9]; exact blk_lt B2
      have lt_B3_b9 : (w.heap.size + 1) < b9 := by rw [eb9]; exact blk_lt B3
      have lt_B6_b9 : b6 < b9 := by rw [eb9]; exact blk_lt B6
      have lt_B7_b9 : (b6 + 1) < b9 := by rw [eb9]; exact blk_lt B7
      have hb_RA_b9 : hi ≤ b9 := by rw [eb9]; exact u_RA
      have hb_RL_b9 : hi ≤ b9 := by rw [eb9]; exact u_RL
      have hb_RH_b9 : hi ≤ b9 := by rw [eb9]; exact u_RH
      replace B2 := Ext.block hxa B2
      replace B3 := Ext.block hxa B3
      replace B6 := Ext.block hxa B6
      replace B7 := Ext.block hxa B7
      replace RA := Own.ext RA hxa
      replace u_RA := Nat.le_trans u_RA hxa.size
      replace RL := Own.ext RL hxa
      replace u_RL := Nat.le_trans u_RL hxa.size
      replace RH := Own.ext RH hxa
      replace u_RH := Nat.le_trans u_RH hxa.size
      replace s := s.ext hxa
      have B9 := BB
      rw [← eb9] at B9
      rw [← eb9]
      clear hxa BB
      generalize (wz2.alloc (.cells #[.int .i64 hd.asn, .int .i64 hd.ing, .int .i64 hd.eg, .int .i64 hd.exp, .int .i64 hd.mac] 108)) = wb at B2 B3 B6 B7 B9 RA RL RH u_RA u_RL u_RH s ⊢
      clear eb9
      clear hcq9 hle hl1 hl2 hy0
      have cb_B2 := blk2 B2
      have cb_B3 := blk3 B3
      have cb_B6 := blk2 B6
      have cb_B7 := blk3 B7
      have cb_B9 := blk5 B9
      go_wp2_with fail
      clear cb_B2 cb_B3 cb_B6 cb_B7 cb_B9
      refine (s_RemoteEnd ty _ _ hd.asn hd.eg _ (Own.rd _ RL)).mono ?_
      rintro e w2 ⟨rfl, hzq⟩
      replace B2 := Ext.block hzq B2
      replace B3 := Ext.block hzq B3
      replace B6 := Ext.block hzq B6
      replace B7 := Ext.block hzq B7
      replace B9 := Ext.block hzq B9
      replace RA := Own.ext RA hzq
      replace u_RA := Nat.le_trans u_RA hzq.size
      replace RL := Own.ext RL hzq
      replace u_RL := Nat.le_trans u_RL hzq.size
      replace RH := Own.ext RH hzq
      replace u_RH := Nat.le_trans u_RH hzq.size
      replace s := s.ext hzq
      clear hzq
      obtain ⟨q, hq9⟩ : ∃ q, q = remEnd ty hd.asn hd.eg := ⟨_, rfl⟩
      rw [← hq9]
      clear hq9
      have cb_B2 := blk2 B2
      have cb_B3 := blk3 B3
      have cb_B6 := blk2 B6
      have cb_B7 := blk3 B7
      have cb_B9 := blk5 B9
      go_upto_region 12 with (fail)
      clear cb_B2 cb_B3 cb_B6 cb_B7 cb_B9
      refine wp_region_fin (fun k => k = w.heap.size ∨ k = w.heap.size + 1) [([0, 1, 2, 3], 4), ([], 5)] [6, 7] [] (by kernel_rfl) (by kernel_rfl) (by kernel_rfl) ?_
      have ch_B6 := blk2 B6
      have q0 := ChgSW.cell (S := fun k => k = w.heap.size ∨ k = w.heap.size + 1) (ch_B6.1) (by first | (unfold at1; simp only; omega) | (simp only; omega))
      have q1 := ChgSW.cell (S := fun k => k = w.heap.size ∨ k = w.heap.size + 1) (ch_B6.2) (by first | (unfold at1; simp only; omega) | (simp only; omega))
      clear ch_B6
      have ch_B7 := blk3 B7
      have q2 := ChgSW.cell (S := fun k => k = w.heap.size ∨ k = w.heap.size + 1) (ch_B7.1) (by first | (unfold at1; simp only; omega) | (simp only; omega))
      have q3 := ChgSW.cell (S := fun k => k = w.heap.size ∨ k = w.heap.size + 1) (ch_B7.2.1) (by first | (unfold at1; simp only; omega) | (simp only; omega))
      have q4 := ChgSW.cell (S := fun k => k = w.heap.size ∨ k = w.heap.size + 1) (ch_B7.2.2) (by first | (unfold at1; simp only; omega) | (simp only; omega))
      clear ch_B7
      simp only [wpBlocksX, pickOps, PK]
      have hch : Chg (fun k => k = w.heap.size ∨ k = w.heap.size + 1) w2 w2.drew := Chg.ofExt (Ext.refl w2).drew
      replace B2 := Ext.block ((Ext.refl w2).drew) B2
      replace B3 := Ext.block ((Ext.refl w2).drew) B3
      replace B6 := Ext.block ((Ext.refl w2).drew) B6
      replace B7 := Ext.block ((Ext.refl w2).drew) B7
      replace B9 := Ext.block ((Ext.refl w2).drew) B9
      replace RA := Own.ext RA ((Ext.refl w2).drew)
      replace u_RA := Nat.le_trans u_RA ((Ext.refl w2).drew).size
      replace RL := Own.ext RL ((Ext.refl w2).drew)
      replace u_RL := Nat.le_trans u_RL ((Ext.refl w2).drew).size
      replace RH := Own.ext RH ((Ext.refl w2).drew)
      replace u_RH := Nat.le_trans u_RH ((Ext.refl w2).drew).size
      replace s := s.ext ((Ext.refl w2).drew)
      obtain ⟨wt, hnw⟩ : ∃ wn, wn = w2.drew := ⟨_, rfl⟩
      rw [← hnw] at B2 B3 B6 B7 B9 RA RL RH u_RA u_RL u_RH s hch ⊢
      clear hnw
      repeat (first | go_big_quiet_step (fail) | quiet_step (fail))
      refine wpQuiet_nil ?_
      obtain ⟨wpa, hwa, hba, hca⟩ := two_set B2 (.slice o1y ty.ases.length c1y) (.slice o2y ty.links.length c2y)
      have HWa := Lib.hid hwa
      clear hwa
      have ff0 := fr_of B2 0
      have ff1 := fr_of B2 1
      have cb := blk2 B2
      go_wp2_with fail
      rw [← HWa.out]
      clear HWa cb ff0 ff1
      replace hch := hch.trans (hca.mono (fun b h => .inl h))
      refine ⟨⟨⟨_, hch⟩, rfl⟩, ?_⟩
      replace RA := Own.at1g RA hca (by omega)
      replace u_RA := Nat.le_trans u_RA hca.size
      replace RL := Own.at1g RL hca (by omega)
      replace u_RL := Nat.le_trans u_RL hca.size
      replace RH := Own.at1g RH hca (by omega)
      replace u_RH := Nat.le_trans u_RH hca.size
      replace B3 := hca.blkS B3 (by unfold at1; omega)
      replace B6 := hca.blkS B6 (by unfold at1; omega)
      replace B7 := hca.blkS B7 (by unfold at1; omega)
      replace B9 := hca.blkS B9 (by unfold at1; omega)
      replace B2 := hba
      clear hba
      replace s := s.put hca (fun i hi => by have h1 : i = w.heap.size := hi; omega)
      try clear hca
      repeat (first | go_big_quiet_step (fail) | quiet_step (fail))
      refine wpQuiet_nil ?_
      obtain ⟨wpb, hwb, hbb, hcb⟩ := three_set B3 (.int .i64 y.ts) (.int .i64 y.beta) (.slice (some ⟨bh, offh, none⟩) y.hops.length c_ay)
      have HWb := Lib.hid hwb
      clear hwb
      have ff0 := fr_of B3 0
      have ff1 := fr_of B3 1
      have ff2 := fr_of B3 2
      have cb := blk3 B3
      go_wp2_with fail
      rw [← HWb.out]
      clear HWb cb ff0 ff1 ff2
      replace hch := hch.trans (hcb.mono (fun b h => .inr h))
      refine ⟨⟨⟨_, hch⟩, rfl⟩, ?_⟩
      replace RA := Own.at1g RA hcb (by omega)
      replace u_RA := Nat.le_trans u_RA hcb.size
      replace RL := Own.at1g RL hcb (by omega)
      replace u_RL := Nat.le_trans u_RL hcb.size
      replace RH := Own.at1g RH hcb (by omega)
      replace u_RH := Nat.le_trans u_RH hcb.size
      replace B2 := hcb.blkS B2 (by unfold at1; omega)
      replace B6 := hcb.blkS B6 (by unfold at1; omega)
      replace B7 := hcb.blkS B7 (by unfold at1; omega)
      replace B9 := hcb.blkS B9 (by unfold at1; omega)
      replace B3 := hbb
      clear hbb
      replace s := s.put hcb (fun i hi => by have h1 : i = (w.heap.size + 1) := hi; omega)
      try clear hcb
      repeat (first | go_big_quiet_step (fail) | quiet_step (fail))
      refine wpQuiet_nil ?_
      refine NoPanic.normal ?_
      clear hch q0 q1 q2 q3 q4
      have cr_B2 := blk2 B2
      have cr_B3 := blk3 B3
      have cr_B6 := blk2 B6
      have cr_B7 := blk3 B7
      have cr_B9 := blk5 B9
      have hszE := s.x.size
      go_wp2_with fail
      refine bodyPost_ret (v := .tuple #[.agg #[.slice o1y ty.ases.length c1y, .slice o2y ty.links.length c2y], .agg #[.int .i64 y.ts, .int .i64 y.beta, .slice (some ⟨bh, offh, none⟩) y.hops.length c_ay], .int .i64 q.1, .int .i64 q.2]) (by simp [results, Try.results44, go_sem, cr_B2, cr_B3]) rfl ?_
      exact ⟨_, _, _, ty, y, q.1, q.2, rfl, TKy, hy5, (Own.upTo (Own.lo RA (by omega)) (Nat.le_refl _)), (Own.upTo (Own.lo RL (by omega)) (Nat.le_refl _)), (Own.upTo (Own.lo RH (by omega)) (Nat.le_refl _)), s.c, s.x⟩
     case true =>
      clear hbo
      have cb_B2 := blk2 B2
      have cb_B3 := blk3 B3
      have cb_B6 := blk2 B6
      have cb_B7 := blk3 B7
      go_upto_region 9 with (fail)
      clear cb_B2 cb_B3 cb_B6 cb_B7
      refine wp_region_fin (fun k => k = g ∨ k = w.heap.size ∨ k = w.heap.size + 1) [([0, 1, 2, 4], 3), ([], 5), ([], 6), ([], 7)] [8, 9] [] (by kernel_rfl) (by kernel_rfl) (by kernel_rfl) ?_
      have ch_B6 := blk2 B6
      have q0 := ChgSW.cell (S := fun k => k = g ∨ k = w.heap.size ∨ k = w.heap.size + 1) (ch_B6.1) (by first | (unfold at1; simp only; omega) | (simp only; omega))
      have q1 := ChgSW.cell (S := fun k => k = g ∨ k = w.heap.size ∨ k = w.heap.size + 1) (ch_B6.2) (by first | (unfold at1; simp only; omega) | (simp only; omega))
      clear ch_B6
      have ch_B7 := blk3 B7
      have q2 := ChgSW.cell (S := fun k => k = g ∨ k = w.heap.size ∨ k = w.heap.size + 1) (ch_B7.1) (by first | (unfold at1; simp only; omega) | (simp only; omega))
      have q3 := ChgSW.cell (S := fun k => k = g ∨ k = w.heap.size ∨ k = w.heap.size + 1) (ch_B7.2.1) (by first | (unfold at1; simp only; omega) | (simp only; omega))
      have q4 := ChgSW.cell (S := fun k => k = g ∨ k = w.heap.size ∨ k = w.heap.size + 1) (ch_B7.2.2) (by first | (unfold at1; simp only; omega) | (simp only; omega))
      clear ch_B7
      simp only [wpBlocksX, pickOps, PK]
      have hch : Chg (fun k => k = g ∨ k = w.heap.size ∨ k = w.heap.size + 1) wz2 wz2.drew := Chg.ofExt (Ext.refl wz2).drew
      replace B2 := Ext.block ((Ext.refl wz2).drew) B2
      replace B3 := Ext.block ((Ext.refl wz2).drew) B3
      replace B6 := Ext.block ((Ext.refl wz2).drew) B6
      replace B7 := Ext.block ((Ext.refl wz2).drew) B7
      replace RA := Own.ext RA ((Ext.refl wz2).drew)
      replace u_RA := Nat.le_trans u_RA ((Ext.refl wz2).drew).size
      replace RL := Own.ext RL ((Ext.refl wz2).drew)
      replace u_RL := Nat.le_trans u_RL ((Ext.refl wz2).drew).size
      replace RH := Own.ext RH ((Ext.refl wz2).drew)
      replace u_RH := Nat.le_trans u_RH ((Ext.refl wz2).drew).size
      replace s := s.ext ((Ext.refl wz2).drew)
      obtain ⟨wt, hnw⟩ : ∃ wn, wn = wz2.drew := ⟨_, rfl⟩
      rw [← hnw] at B2 B3 B6 B7 RA RL RH u_RA u_RL u_RH s hch ⊢
      clear hnw
      repeat (first | go_big_quiet_step (fail) | quiet_step (fail))
      refine wpQuiet_nil ?_
      go_wp2_with fail
      refine (s_l1Below g (8) _ _ _ s.c).mono ?_
      rintro e w2 ⟨na, rfl, hna0, hna1, hcq, hzq⟩
      replace B2 := hzq.blkS B2 (by unfold at1; omega)
      replace B3 := hzq.blkS B3 (by unfold at1; omega)
      replace B6 := hzq.blkS B6 (by unfold at1; omega)
      replace B7 := hzq.blkS B7 (by unfold at1; omega)
      replace RA := Own.at1g RA hzq (.inl g_RA)
      replace u_RA := Nat.le_trans u_RA hzq.size
      replace RL := Own.at1g RL hzq (.inl g_RL)
      replace u_RL := Nat.le_trans u_RL hzq.size
      replace RH := Own.at1g RH hzq (.inl g_RH)
      replace u_RH := Nat.le_trans u_RH hzq.size
      replace s := s.draw hcq hzq
      replace hch := hch.trans (hzq.mono (fun b h => .inl h))
      clear hzq hcq
      go_wp2_with fail
      refine ⟨⟨⟨_, hch⟩, rfl⟩, ?_⟩
      repeat (first | go_big_quiet_step (fail) | quiet_step (fail))
      refine wpQuiet_nil ?_
      go_wp2_with fail
      refine (s_l1Below g (7) _ _ _ s.c).mono ?_
      rintro e w3 ⟨nb, rfl, hnb0, hnb1, hcq, hzq⟩
      replace B2 := hzq.blkS B2 (by unfold at1; omega)
      replace B3 := hzq.blkS B3 (by unfold at1; omega)
      replace B6 := hzq.blkS B6 (by unfold at1; omega)
      replace B7 := hzq.blkS B7 (by unfold at1; omega)
      replace RA := Own.at1g RA hzq (.inl g_RA)
      replace u_RA := Nat.le_trans u_RA hzq.size
      replace RL := Own.at1g RL hzq (.inl g_RL)
      replace u_RL := Nat.le_trans u_RL hzq.size
      replace RH := Own.at1g RH hzq (.inl g_RH)
      replace u_RH := Nat.le_trans u_RH hzq.size
      replace s := s.draw hcq hzq
      replace hch := hch.trans (hzq.mono (fun b h => .inl h))
      clear hzq hcq
      go_wp2_with fail
      refine ⟨⟨⟨_, hch⟩, rfl⟩, ?_⟩
      repeat (first | go_big_quiet_step (fail) | quiet_step (fail))
      refine wpQuiet_nil ?_
      obtain ⟨wpa, hwa, hba, hca⟩ := two_set B2 (.slice o1y ty.ases.length c1y) (.slice o2y ty.links.length c2y)
      have HWa := Lib.hid hwa
      clear hwa
      have ff0 := fr_of B2 0
      have ff1 := fr_of B2 1
      have cb := blk2 B2
      go_wp2_with fail
      rw [← HWa.out]
      clear HWa cb ff0 ff1
      replace hch := hch.trans (hca.mono (fun b h => .inr (.inl h)))
      refine ⟨⟨⟨_, hch⟩, rfl⟩, ?_⟩
      replace RA := Own.at1g RA hca (by omega)
      replace u_RA := Nat.le_trans u_RA hca.size
      replace RL := Own.at1g RL hca (by omega)
      replace u_RL := Nat.le_trans u_RL hca.size
      replace RH := Own.at1g RH hca (by omega)
      replace u_RH := Nat.le_trans u_RH hca.size
      replace B3 := hca.blkS B3 (by unfold at1; omega)
      replace B6 := hca.blkS B6 (by unfold at1; omega)
      replace B7 := hca.blkS B7 (by unfold at1; omega)
      replace B2 := hba
      clear hba
      replace s := s.put hca (fun i hi => by have h1 : i = w.heap.size := hi; omega)
      try clear hca
      repeat (first | go_big_quiet_step (fail) | quiet_step (fail))
      refine wpQuiet_nil ?_
      obtain ⟨wpb, hwb, hbb, hcb⟩ := three_set B3 (.int .i64 y.ts) (.int .i64 y.beta) (.slice o_ay y.hops.length c_ay)
      have HWb := Lib.hid hwb
      clear hwb
      have ff0 := fr_of B3 0
      have ff1 := fr_of B3 1
      have ff2 := fr_of B3 2
      have cb := blk3 B3
      go_wp2_with fail
      rw [← HWb.out]
      clear HWb cb ff0 ff1 ff2
      replace hch := hch.trans (hcb.mono (fun b h => .inr (.inr h)))
      refine ⟨⟨⟨_, hch⟩, rfl⟩, ?_⟩
      replace RA := Own.at1g RA hcb (by omega)
      replace u_RA := Nat.le_trans u_RA hcb.size
      replace RL := Own.at1g RL hcb (by omega)
      replace u_RL := Nat.le_trans u_RL hcb.size
      replace RH := Own.at1g RH hcb (by omega)
      replace u_RH := Nat.le_trans u_RH hcb.size
      replace B2 := hcb.blkS B2 (by unfold at1; omega)
      replace B6 := hcb.blkS B6 (by unfold at1; omega)
      replace B7 := hcb.blkS B7 (by unfold at1; omega)
      replace B3 := hbb
      clear hbb
      replace s := s.put hcb (fun i hi => by have h1 : i = (w.heap.size + 1) := hi; omega)
      try clear hcb
      repeat (first | go_big_quiet_step (fail) | quiet_step (fail))
      refine wpQuiet_nil ?_
      refine NoPanic.normal ?_
      clear hch q0 q1 q2 q3 q4
      have cr_B2 := blk2 B2
      have cr_B3 := blk3 B3
      have cr_B6 := blk2 B6
      have cr_B7 := blk3 B7
      have hszE := s.x.size
      go_wp2_with fail
      refine bodyPost_ret (v := .tuple #[.agg #[.slice o1y ty.ases.length c1y, .slice o2y ty.links.length c2y], .agg #[.int .i64 y.ts, .int .i64 y.beta, .slice o_ay y.hops.length c_ay], .int .i64 na, .int .i64 nb]) (by simp [results, Try.results44, go_sem, cr_B2, cr_B3]) rfl ?_
      exact ⟨_, _, _, ty, y, na, nb, rfl, TKy, hy5, (Own.upTo (Own.lo RA (by omega)) (Nat.le_refl _)), (Own.upTo (Own.lo RL (by omega)) (Nat.le_refl _)), (Own.upTo (Own.lo RH (by omega)) (Nat.le_refl _)), s.c, s.x⟩
   case true =>
    have hgk0 := hbb rfl
    clear hbb
    have cb_B2 := blk2 B2
    have cb_B3 := blk3 B3
    have cb_B6 := blk2 B6
    have cb_B7 := blk3 B7
    go_wp2_with fail
    clear cb_B2 cb_B3 cb_B6 cb_B7
    have hbs : w.heap.size ≤ wz1.heap.size := s.x.size
    have ltq_B2 : w.heap.size < wz1.heap.size := blk_lt B2
    have ltq_B3 : (w.heap.size + 1) < wz1.heap.size := blk_lt B3
    have ltq_B6 : b6 < wz1.heap.size := blk_lt B6
    have ltq_B7 : (b6 + 1) < wz1.heap.size := blk_lt B7
    refine (s_l9Draw g _ _ _ s.c).mono ?_
    rintro e w2 ⟨v1n, v2n, van, tn, kn, an, rfl, TKn, SDn, OAn, OLn, OHn, hcq, hzq⟩
    replace B2 := hzq.blkS B2 (by unfold at1; omega)
    replace B3 := hzq.blkS B3 (by unfold at1; omega)
    replace B6 := hzq.blkS B6 (by unfold at1; omega)
    replace B7 := hzq.blkS B7 (by unfold at1; omega)
    replace RA := Own.at1g RA hzq (.inl g_RA)
    replace u_RA := Nat.le_trans u_RA hzq.size
    replace RL := Own.at1g RL hzq (.inl g_RL)
    replace u_RL := Nat.le_trans u_RL hzq.size
    replace RH := Own.at1g RH hzq (.inl g_RH)
    replace u_RH := Nat.le_trans u_RH hzq.size
    replace s := s.draw hcq hzq
    have RAn : (Own.keep ASd.rep).own (rng wz1.heap.size w2.heap.size) w2 v1n tn.ases := Own.toKeep (Own.ofFr (hf := ASd.flen) OAn (Nat.le_refl _))
    clear OAn
    have RLn : (Own.keep Lnk.rep).own (rng wz1.heap.size w2.heap.size) w2 v2n tn.links := Own.toKeep (Own.ofFr (hf := Lnk.flen) OLn (Nat.le_refl _))
    clear OLn
    have RHn : (Own.keep Hop.rep).own (rng wz1.heap.size w2.heap.size) w2 van an.hops := Own.toKeep (Own.ofFr (hf := Hop.flen) OHn (Nat.le_refl _))
    clear OHn
    obtain ⟨o1n, c1n, rfl, _⟩ := RdS.shape (Own.rd _ RAn)
    obtain ⟨o2n, c2n, rfl, _⟩ := RdS.shape (Own.rd _ RLn)
    obtain ⟨o_an, c_an, rfl, _⟩ := RdS.shape (Own.rd _ RHn)
    have hl5n := SDn.len
    clear SDn
    have g_RAn : g < wz1.heap.size := by omega
    have u_RAn : w2.heap.size ≤ w2.heap.size := by omega
    have lt_B2_RAn : w.heap.size < wz1.heap.size := by omega
    have lt_B3_RAn : (w.heap.size + 1) < wz1.heap.size := by omega
    have lt_B6_RAn : b6 < wz1.heap.size := by omega
    have lt_B7_RAn : (b6 + 1) < wz1.heap.size := by omega
    have g_RLn : g < wz1.heap.size := by omega
    have u_RLn : w2.heap.size ≤ w2.heap.size := by omega
    have lt_B2_RLn : w.heap.size < wz1.heap.size := by omega
    have lt_B3_RLn : (w.heap.size + 1) < wz1.heap.size := by omega
    have lt_B6_RLn : b6 < wz1.heap.size := by omega
    have lt_B7_RLn : (b6 + 1) < wz1.heap.size := by omega
    have g_RHn : g < wz1.heap.size := by omega
    have u_RHn : w2.heap.size ≤ w2.heap.size := by omega
    have lt_B2_RHn : w.heap.size < wz1.heap.size := by omega
    have lt_B3_RHn : (w.heap.size + 1) < wz1.heap.size := by omega
    have lt_B6_RHn : b6 < wz1.heap.size := by omega
    have lt_B7_RHn : (b6 + 1) < wz1.heap.size := by omega
    clear hzq hcq hbs ltq_B2 ltq_B3 ltq_B6 ltq_B7
    clear u_RA g_RA
    clear RA
    clear u_RL g_RL
    clear RL
    clear u_RH g_RH
    clear RH
    obtain ⟨wpc, hwc, hbc, hcc⟩ := two_set B6 (.slice o1n tn.ases.length c1n) (.slice o2n tn.links.length c2n)
    have HWc := Lib.hid hwc
    clear hwc
    have fc0 := fr_of B6 0
    have fc1 := fr_of B6 1
    have fk0 := fr_of B7 0
    have fk1 := fr_of B7 1
    have fk2 := fr_of B7 2
    have cb_B2 := blk2 B2
    have cb_B3 := blk3 B3
    have cb_B6 := blk2 B6
    have cb_B7 := blk3 B7
    go_upto_region 6 with (fail)
    clear cb_B2 cb_B3 cb_B6 cb_B7
    rw [← HWc.out]
    clear HWc fc0 fc1 fk0 fk1 fk2
    replace RAn := Own.at1g RAn hcc (by omega)
    replace u_RAn := Nat.le_trans u_RAn hcc.size
    replace RLn := Own.at1g RLn hcc (by omega)
    replace u_RLn := Nat.le_trans u_RLn hcc.size
    replace RHn := Own.at1g RHn hcc (by omega)
    replace u_RHn := Nat.le_trans u_RHn hcc.size
    replace B2 := hcc.blkS B2 (by unfold at1; omega)
    replace B3 := hcc.blkS B3 (by unfold at1; omega)
    replace B7 := hcc.blkS B7 (by unfold at1; omega)
    replace B6 := hbc
    clear hbc
    replace s := s.put hcc (fun i hi => by have h1 : i = b6 := hi; omega)
    try clear hcc
    obtain ⟨wpd, hwd, hbd, hcd⟩ := three_set B7 (.int .i64 an.ts) (.int .i64 an.beta) (.slice o_an an.hops.length c_an)
    rw [← hwd]
    clear hwd
    replace RAn := Own.at1g RAn hcd (by omega)
    replace u_RAn := Nat.le_trans u_RAn hcd.size
    replace RLn := Own.at1g RLn hcd (by omega)
    replace u_RLn := Nat.le_trans u_RLn hcd.size
    replace RHn := Own.at1g RHn hcd (by omega)
    replace u_RHn := Nat.le_trans u_RHn hcd.size
    replace B2 := hcd.blkS B2 (by unfold at1; omega)
    replace B3 := hcd.blkS B3 (by unfold at1; omega)
    replace B6 := hcd.blkS B6 (by unfold at1; omega)
    replace B7 := hbd
    clear hbd
    replace s := s.put hcd (fun i hi => by have h1 : i = (b6 + 1) := hi; omega)
    try clear hcd
    by_cases h1 : (1 : Int) < (an.hops.length : Int)
    ·
     have cb_B2 := blk2 B2
     have cb_B3 := blk3 B3
     have cb_B6 := blk2 B6
     have cb_B7 := blk3 B7
     go_wp2_with fail
     clear cb_B2 cb_B3 cb_B6 cb_B7
     refine (s_IsTerminated an _ _ (Own.rd _ RHn)).mono ?_
     rintro e w3 ⟨rfl, hzq⟩
     replace B2 := Ext.block hzq B2
     replace B3 := Ext.block hzq B3
     replace B6 := Ext.block hzq B6
     replace B7 := Ext.block hzq B7
     replace RAn := Own.ext RAn hzq
     replace u_RAn := Nat.le_trans u_RAn hzq.size
     replace RLn := Own.ext RLn hzq
     replace u_RLn := Nat.le_trans u_RLn hzq.size
     replace RHn := Own.ext RHn hzq
     replace u_RHn := Nat.le_trans u_RHn hzq.size
     replace s := s.ext hzq
     clear hzq
     cases ht : isTerm an
     ·
      clear ht
      have cb_B2 := blk2 B2
      have cb_B3 := blk3 B3
      have cb_B6 := blk2 B6
      have cb_B7 := blk3 B7
      go_wp2_with fail
      clear cb_B2 cb_B3 cb_B6 cb_B7
      go_roundg (gq - 1)
      case measure => omega
      case rel => exact ⟨tn, an, _, _, _, _, _, _, _, _, i + 1, congrArg (Value.int .i64) (by first | omega | (unfold wrap64; omega)), by omega, TKn, hl5n, g_RAn, lt_B3_RAn, B2, B3, B6, B7, ⟨RAn, u_RAn⟩, ⟨RLn, u_RLn⟩, ⟨RHn, u_RHn⟩, s.c, s.x⟩
     ·
      clear ht
      obtain ⟨b9, off9, rfl, _⟩ := Hop.at (Own.rd _ RHn) 0 (by omega)
      obtain ⟨_, _, hq9, hcap9, _⟩ := Own.rd _ RHn
      cases hq9
      obtain ⟨m, hm⟩ : ∃ m : Nat, an.hops.length = m + 1 := ⟨an.hops.length - 1, by omega⟩
      have hm9 : wrap64 ((an.hops.length : Int) - 1) = (m : Int) := by unfold wrap64; omega
      have hmc9 : m ≤ c_an := by omega
      have RHm := keep_take RHn (k := m) (by omega)
      have g_RHm := g_RHn
      have u_RHm := u_RHn
      have lt_B2_RHm := lt_B2_RHn
      have lt_B3_RHm := lt_B3_RHn
      obtain ⟨wpn, hwn, hbn, hcn⟩ := one_set B7 2 (.slice (some ⟨b9, off9, none⟩) m c_an)
      simp only [List.setIfInBounds_toArray, List.set_cons_succ, List.set_cons_zero] at hbn
      have HWn := Lib.hid hwn
      clear hwn
      have ff0 := fr_of B7 0
      have ff1 := fr_of B7 1
      have ff2 := fr_of B7 2
      have cb_B2 := blk2 B2
      have cb_B3 := blk3 B3
      have cb_B6 := blk2 B6
      have cb_B7 := blk3 B7
      go_upto_region 4 with (fail)
      clear cb_B2 cb_B3 cb_B6 cb_B7
      rw [← HWn.out]
      clear HWn ff0 ff1 ff2
      replace RAn := Own.at1g RAn hcn (by omega)
      replace u_RAn := Nat.le_trans u_RAn hcn.size
      replace RLn := Own.at1g RLn hcn (by omega)
      replace u_RLn := Nat.le_trans u_RLn hcn.size
      replace RHn := Own.at1g RHn hcn (by omega)
      replace u_RHn := Nat.le_trans u_RHn hcn.size
      replace RHm := Own.at1g RHm hcn (by omega)
      replace u_RHm := Nat.le_trans u_RHm hcn.size
      replace B2 := hcn.blkS B2 (by unfold at1; omega)
      replace B3 := hcn.blkS B3 (by unfold at1; omega)
      replace B6 := hcn.blkS B6 (by unfold at1; omega)
      replace B7 := hbn
      clear hbn
      replace s := s.put hcn (fun i hi => by have h1 : i = (b6 + 1) := hi; omega)
      try clear hcn
      obtain ⟨y2, hy2⟩ : ∃ y2 : Seg, y2 = ⟨an.ts, an.beta, an.hops.take m⟩ := ⟨_, rfl⟩
      have e1 : y2.ts = an.ts := by rw [hy2]
      have e2 : y2.beta = an.beta := by rw [hy2]
      have e4 : y2.hops = an.hops.take m := by rw [hy2]
      have e3 : y2.hops.length = m := by rw [e4, List.length_take]; omega
      clear hy2
      rw [← e4, ← e3] at RHm
      rw [← e1, ← e2, ← e3] at B7
      have hy25 : y2.hops.length ≤ 5 := by omega
      have cb_B2 := blk2 B2
      have cb_B3 := blk3 B3
      have cb_B6 := blk2 B6
      have cb_B7 := blk3 B7
      go_wp2_with fail
      clear cb_B2 cb_B3 cb_B6 cb_B7
      go_roundg (gq - 1)
      case measure => omega
      case rel => exact ⟨tn, y2, _, _, _, _, _, _, _, _, i + 1, congrArg (Value.int .i64) (by first | omega | (unfold wrap64; omega)), by omega, TKn, hy25, g_RAn, lt_B3_RAn, B2, B3, B6, B7, ⟨RAn, u_RAn⟩, ⟨RLn, u_RLn⟩, ⟨RHm, u_RHm⟩, s.c, s.x⟩
    ·
     have cb_B2 := blk2 B2
     have cb_B3 := blk3 B3
     have cb_B6 := blk2 B6
     have cb_B7 := blk3 B7
     go_wp2_with fail
     clear cb_B2 cb_B3 cb_B6 cb_B7
     go_roundg (gq - 1)
     case measure => omega
     case rel => exact ⟨tn, an, _, _, _, _, _, _, _, _, i + 1, congrArg (Value.int .i64) (by first | omega | (unfold wrap64; omega)), by omega, TKn, hl5n, g_RAn, lt_B3_RAn, B2, B3, B6, B7, ⟨RAn, u_RAn⟩, ⟨RLn, u_RLn⟩, ⟨RHn, u_RHn⟩, s.c, s.x⟩

set_option maxRecDepth 100000 in
set_option maxHeartbeats 40000000 in
theorem s_DrawTerminate (code : List Int) (cv : Value) (w : World) (hr : RdS Rep.byte w cv code) (hu : ∀ x ∈ code, U8 x) (hl : code.length ≤ 1048576) :
  Calls Try.prog 14 #[cv] w fun e w' => ∃ (v1 v2 v : Value) (t : Topo) (p : Pol) (a : Seg) (r inn : Int), e = .returned (.tuple #[.agg #[v1, v2], .agg #[.int .i64 p.most, .int .i64 p.den, .int .i64 p.clo, .int .i64 p.life], .agg #[.int .i64 a.ts, .int .i64 a.beta, v], .int .i64 r, .int .i64 inn]) ∧ TopoOk t ∧ p.most ≤ 8 ∧ 0 ≤ p.life ∧ p.life ≤ 1000 ∧ a.hops.length ≤ 5 ∧ RdS ASd.rep w' v1 t.ases ∧ RdS Lnk.rep w' v2 t.links ∧ RdS Hop.rep w' v a.hops ∧ Ext w w' := by
 have hx0 := ext3 w (.cells #[.slice none 0 0, .slice none 0 0] 41) (.cells #[.int .i64 0, .int .i64 0, .int .i64 0, .int .i64 0] 57) (.cells #[.int .i64 0, .int .i64 0, .slice none 0 0] 60)
 have HB := al3 w (.cells #[.slice none 0 0, .slice none 0 0] 41) (.cells #[.int .i64 0, .int .i64 0, .int .i64 0, .int .i64 0] 57) (.cells #[.int .i64 0, .int .i64 0, .slice none 0 0] 60)
 go_enter Try.func14, Try.ntmps14
 go_wp2_with fail
 refine (s_l1New code _ _ (hr.ext hx0) hu hl).mono ?_
 rintro e w1 ⟨g, rfl, hgl, hc1, hn1⟩
 have hgw := hc1.lt
 have s : DSt g cv code w1 w1 := ⟨hc1, Chg.refl _ _, hc1⟩
 have B2 := Ext.block hn1 HB.1
 have B3 := Ext.block hn1 HB.2.1
 have B4 := Ext.block hn1 HB.2.2
 have hgr : (w.heap.size + 1 + 1) < g := by simp at hgl; omega
 clear HB
 clear hc1
 have cb_B2 := blk2 B2
 have cb_B3 := blk4 B3
 have cb_B4 := blk3 B4
 go_wp2_with fail
 clear cb_B2 cb_B3 cb_B4
 have hbs : w1.heap.size ≤ w1.heap.size := s.x.size
 have ltq_B2 : w.heap.size < w1.heap.size := blk_lt B2
 have ltq_B3 : (w.heap.size + 1) < w1.heap.size := blk_lt B3
 have ltq_B4 : (w.heap.size + 1 + 1) < w1.heap.size := blk_lt B4
 refine (s_l13Open g _ _ _ s.c).mono ?_
 rintro e w2 ⟨v1, v2, va, t, a, r, inn, rfl, TK, hl5, RA, RL, RH, hcq, hzq⟩
 replace B2 := hzq.blkS B2 (by unfold at1; omega)
 replace B3 := hzq.blkS B3 (by unfold at1; omega)
 replace B4 := hzq.blkS B4 (by unfold at1; omega)
 replace s := s.draw hcq hzq
 obtain ⟨o1, c1, rfl, _⟩ := RdS.shape (Own.rd _ RA)
 obtain ⟨o2, c2, rfl, _⟩ := RdS.shape (Own.rd _ RL)
 obtain ⟨o_a, c_a, rfl, _⟩ := RdS.shape (Own.rd _ RH)
 have g_RA : g < w1.heap.size := by omega
 have u_RA : w2.heap.size ≤ w2.heap.size := by omega
 have lt_B2_RA : w.heap.size < w1.heap.size := by omega
 have lt_B3_RA : (w.heap.size + 1) < w1.heap.size := by omega
 have lt_B4_RA : (w.heap.size + 1 + 1) < w1.heap.size := by omega
 have g_RL : g < w1.heap.size := by omega
 have u_RL : w2.heap.size ≤ w2.heap.size := by omega
 have lt_B2_RL : w.heap.size < w1.heap.size := by omega
 have lt_B3_RL : (w.heap.size + 1) < w1.heap.size := by omega
 have lt_B4_RL : (w.heap.size + 1 + 1) < w1.heap.size := by omega
 have g_RH : g < w1.heap.size := by omega
 have u_RH : w2.heap.size ≤ w2.heap.size := by omega
 have lt_B2_RH : w.heap.size < w1.heap.size := by omega
 have lt_B3_RH : (w.heap.size + 1) < w1.heap.size := by omega
 have lt_B4_RH : (w.heap.size + 1 + 1) < w1.heap.size := by omega
 clear hzq hcq hbs ltq_B2 ltq_B3 ltq_B4
 have cb_B2 := blk2 B2
 have cb_B3 := blk4 B3
 have cb_B4 := blk3 B4
 go_upto_region 3 with (fail)
 clear cb_B2 cb_B3 cb_B4
 have hxa := ext2 w2 (.cells #[.slice o1 t.ases.length c1, .slice o2 t.links.length c2] 41) (.cells #[.int .i64 a.ts, .int .i64 a.beta, .slice o_a a.hops.length c_a] 60)
 have BB := al2 w2 (.cells #[.slice o1 t.ases.length c1, .slice o2 t.links.length c2] 41) (.cells #[.int .i64 a.ts, .int .i64 a.beta, .slice o_a a.hops.length c_a] 60)
 obtain ⟨b8, eb8⟩ : ∃ b, b = w2.heap.size := ⟨_, rfl⟩
 have ltw_b8 : w1.heap.size ≤ b8 := by rw [eb8]; exact s.x.size
 have lt_B2_b8 : w.heap.size < b8 := by rw [eb8]; exact blk_lt B2
 have lt_B3_b8 : (w.heap.size + 1) < b8 := by rw [eb8]; exact blk_lt B3
 have lt_B4_b8 : (w.heap.size + 1 + 1) < b8 := by rw [eb8]; exact blk_lt B4
 have hb_RA_b8 : w2.heap.size ≤ b8 := by rw [eb8]; exact u_RA
 have hb_RL_b8 : w2.heap.size ≤ b8 := by rw [eb8]; exact u_RL
 have hb_RH_b8 : w2.heap.size ≤ b8 := by rw [eb8]; exact u_RH
 replace B2 := Ext.block hxa B2
 replace B3 := Ext.block hxa B3
 replace B4 := Ext.block hxa B4
 replace RA := Own.ext RA hxa
 replace u_RA := Nat.le_trans u_RA hxa.size
 replace RL := Own.ext RL hxa
 replace u_RL := Nat.le_trans u_RL hxa.size
 replace RH := Own.ext RH hxa
 replace u_RH := Nat.le_trans u_RH hxa.size
 replace s := s.ext hxa
 have B8 := BB.1
 have B9 := BB.2
 rw [← eb8] at B8 B9
 rw [← eb8]
 clear hxa BB
 generalize ((w2.alloc (.cells #[.slice o1 t.ases.length c1, .slice o2 t.links.length c2] 41)).alloc (.cells #[.int .i64 a.ts, .int .i64 a.beta, .slice o_a a.hops.length c_a] 60)) = wa at B2 B3 B4 B8 B9 RA RL RH u_RA u_RL u_RH s ⊢
 clear eb8
 have cb_B2 := blk2 B2
 have cb_B3 := blk4 B3
 have cb_B4 := blk3 B4
 have cb_B8 := blk2 B8
 have cb_B9 := blk3 B9
 go_wp2_with fail
 clear cb_B2 cb_B3 cb_B4 cb_B8 cb_B9
 refine (s_l1Once g (5) _ _ _ s.c).mono ?_
 rintro e w3 ⟨b1, rfl, hcq, hzq⟩
 replace B2 := hzq.blkS B2 (by unfold at1; omega)
 replace B3 := hzq.blkS B3 (by unfold at1; omega)
 replace B4 := hzq.blkS B4 (by unfold at1; omega)
 replace B8 := hzq.blkS B8 (by unfold at1; omega)
 replace B9 := hzq.blkS B9 (by unfold at1; omega)
 replace RA := Own.at1g RA hzq (.inl g_RA)
 replace u_RA := Nat.le_trans u_RA hzq.size
 replace RL := Own.at1g RL hzq (.inl g_RL)
 replace u_RL := Nat.le_trans u_RL hzq.size
 replace RH := Own.at1g RH hzq (.inl g_RH)
 replace u_RH := Nat.le_trans u_RH hzq.size
 replace s := s.draw hcq hzq
 clear hzq hcq
 have cb_B2 := blk2 B2
 have cb_B3 := blk4 B3
 have cb_B4 := blk3 B4
 have cb_B8 := blk2 B8
 have cb_B9 := blk3 B9
 go_upto_if 22 with (fail)
 clear cb_B2 cb_B3 cb_B4 cb_B8 cb_B9
 go_cut [] (fun  wx => ∃ (y : Seg) (o_ay : Option Addr) (c_ay : Nat) (lo : Nat) (hi : Nat), (y.hops.length ≤ 5) ∧ (g < lo) ∧ (w.heap.size + 1 + 1 < lo) ∧ wx.heap[w.heap.size]? = some (.cells #[.slice none 0 0, .slice none 0 0] 41 (0, 0)) ∧ wx.heap[(w.heap.size + 1)]? = some (.cells #[.int .i64 0, .int .i64 0, .int .i64 0, .int .i64 0] 57 (0, 0)) ∧ wx.heap[(w.heap.size + 1 + 1)]? = some (.cells #[.int .i64 0, .int .i64 0, .slice none 0 0] 60 (0, 0)) ∧ wx.heap[b8]? = some (.cells #[.slice o1 t.ases.length c1, .slice o2 t.links.length c2] 41 (0, 0)) ∧ wx.heap[(b8 + 1)]? = some (.cells #[.int .i64 y.ts, .int .i64 y.beta, .slice o_ay y.hops.length c_ay] 60 (0, 0)) ∧ ((Own.keep ASd.rep).own (rng w1.heap.size w2.heap.size) wx (.slice o1 t.ases.length c1) t.ases ∧ w2.heap.size ≤ wx.heap.size) ∧ ((Own.keep Lnk.rep).own (rng w1.heap.size w2.heap.size) wx (.slice o2 t.links.length c2) t.links ∧ w2.heap.size ≤ wx.heap.size) ∧ ((Own.keep Hop.rep).own (rng lo hi) wx (.slice o_ay y.hops.length c_ay) y.hops ∧ hi ≤ wx.heap.size) ∧ Cur g cv code wx ∧ Chg (at1 g) w1 wx)
 case first =>
  cases b1
  case false =>
   go_wp2_with fail
   go_meet
   exact ⟨a, _, _, _, _, hl5, g_RH, lt_B4_RH, B2, B3, B4, B8, B9, ⟨RA, u_RA⟩, ⟨RL, u_RL⟩, ⟨RH, u_RH⟩, s.c, s.x⟩
  case true =>
   have cb_B2 := blk2 B2
   have cb_B3 := blk4 B3
   have cb_B4 := blk3 B4
   have cb_B8 := blk2 B8
   have cb_B9 := blk3 B9
   go_wp2_with fail
   clear cb_B2 cb_B3 cb_B4 cb_B8 cb_B9
   have hbs : w1.heap.size ≤ w3.heap.size := s.x.size
   have ltq_B2 : w.heap.size < w3.heap.size := blk_lt B2
   have ltq_B3 : (w.heap.size + 1) < w3.heap.size := blk_lt B3
   have ltq_B4 : (w.heap.size + 1 + 1) < w3.heap.size := blk_lt B4
   have ltq_B8 : b8 < w3.heap.size := blk_lt B8
   have ltq_B9 : (b8 + 1) < w3.heap.size := blk_lt B9
   refine (s_l9Spoil g a _ _ _ _ s.c (Own.stR RH (.inl g_RH)) (by omega)).mono ?_
   rintro e w4 ⟨vb, ab, rfl, hlb, OB, hcq, hzq⟩
   replace B2 := hzq.blkS B2 (by unfold at1; omega)
   replace B3 := hzq.blkS B3 (by unfold at1; omega)
   replace B4 := hzq.blkS B4 (by unfold at1; omega)
   replace B8 := hzq.blkS B8 (by unfold at1; omega)
   replace B9 := hzq.blkS B9 (by unfold at1; omega)
   replace RA := Own.at1g RA hzq (.inl g_RA)
   replace u_RA := Nat.le_trans u_RA hzq.size
   replace RL := Own.at1g RL hzq (.inl g_RL)
   replace u_RL := Nat.le_trans u_RL hzq.size
   replace RH := Own.at1g RH hzq (.inl g_RH)
   replace u_RH := Nat.le_trans u_RH hzq.size
   replace s := s.draw hcq hzq
   have RB : (Own.keep Hop.rep).own (rng w3.heap.size w4.heap.size) w4 vb ab.hops := Own.toKeep (Own.ofFr (hf := Hop.flen) OB (Nat.le_refl _))
   clear OB
   obtain ⟨o_ab, c_ab, rfl, _⟩ := RdS.shape (Own.rd _ RB)
   have g_RB : g < w3.heap.size := by omega
   have u_RB : w4.heap.size ≤ w4.heap.size := by omega
   have lt_B2_RB : w.heap.size < w3.heap.size := by omega
   have lt_B3_RB : (w.heap.size + 1) < w3.heap.size := by omega
   have lt_B4_RB : (w.heap.size + 1 + 1) < w3.heap.size := by omega
   have lt_B8_RB : b8 < w3.heap.size := by omega
   have lt_B9_RB : (b8 + 1) < w3.heap.size := by omega
   clear hzq hcq hbs ltq_B2 ltq_B3 ltq_B4 ltq_B8 ltq_B9
   obtain ⟨wpd, hwd, hbd, hcd⟩ := three_set B9 (.int .i64 ab.ts) (.int .i64 ab.beta) (.slice o_ab ab.hops.length c_ab)
   have ff0 := fr_of B9 0
   have ff1 := fr_of B9 1
   have ff2 := fr_of B9 2
   have HWd := Lib.hid hwd
   clear hwd
   have cb_B2 := blk2 B2
   have cb_B3 := blk4 B3
   have cb_B4 := blk3 B4
   have cb_B8 := blk2 B8
   have cb_B9 := blk3 B9
   go_wp2_with fail
   clear cb_B2 cb_B3 cb_B4 cb_B8 cb_B9
   rw [← HWd.out]
   clear HWd ff0 ff1 ff2
   replace RA := Own.at1g RA hcd (by omega)
   replace u_RA := Nat.le_trans u_RA hcd.size
   replace RL := Own.at1g RL hcd (by omega)
   replace u_RL := Nat.le_trans u_RL hcd.size
   replace RH := Own.at1g RH hcd (by omega)
   replace u_RH := Nat.le_trans u_RH hcd.size
   replace RB := Own.at1g RB hcd (by omega)
   replace u_RB := Nat.le_trans u_RB hcd.size
   replace B2 := hcd.blkS B2 (by unfold at1; omega)
   replace B3 := hcd.blkS B3 (by unfold at1; omega)
   replace B4 := hcd.blkS B4 (by unfold at1; omega)
   replace B8 := hcd.blkS B8 (by unfold at1; omega)
   replace B9 := hbd
   clear hbd
   replace s := s.put hcd (fun i hi => by have h1 : i = (b8 + 1) := hi; omega)
   try clear hcd
   go_wp2_with fail
   go_meet
   exact ⟨ab, _, _, _, _, (by omega), g_RB, lt_B4_RB, B2, B3, B4, B8, B9, ⟨RA, u_RA⟩, ⟨RL, u_RL⟩, ⟨RB, u_RB⟩, s.c, s.x⟩
 case rest =>
  have hc0z := s.c0
  clear s B2 B3 B4 B8 B9 RA RL RH u_RA u_RL u_RH
  obtain ⟨y, o_ay, c_ay, lo, hi, hy5, hlo1, hlo2, B2, B3, B4, B8, B9, ⟨RA, u_RA⟩, ⟨RL, u_RL⟩, ⟨RH, u_RH⟩, hcC, hcX⟩ := hcut
  obtain ⟨wz1, hwz⟩ : ∃ wz : World, wz = wc := ⟨_, rfl⟩
  subst hwz
  have s : DSt g cv code w1 wz1 := ⟨hcC, hcX, hc0z⟩
  clear hcC hcX hc0z
  try clear g_RH lt_B2_RH lt_B3_RH lt_B4_RH
  have g_RH : g < lo := by omega
  have lt_B2_RH : w.heap.size < lo := by omega
  have lt_B3_RH : (w.heap.size + 1) < lo := by omega
  have lt_B4_RH : (w.heap.size + 1 + 1) < lo := by omega
  have cb_B2 := blk2 B2
  have cb_B3 := blk4 B3
  have cb_B4 := blk3 B4
  have cb_B8 := blk2 B8
  have cb_B9 := blk3 B9
  go_upto_region 5 with (fail)
  clear cb_B2 cb_B3 cb_B4 cb_B8 cb_B9
  refine wp_region_fin (fun k => k = g ∨ k = w.heap.size ∨ k = w.heap.size + 1 ∨ k = w.heap.size + 1 + 1) [([0, 1, 3, 4, 5], 2), ([], 6), ([], 7), ([], 8)] [9, 10] [] (by kernel_rfl) (by kernel_rfl) (by kernel_rfl) ?_
  have ch_B8 := blk2 B8
  have q0 := ChgSW.cell (S := fun k => k = g ∨ k = w.heap.size ∨ k = w.heap.size + 1 ∨ k = w.heap.size + 1 + 1) (ch_B8.1) (by first | (unfold at1; simp only; omega) | (simp only; omega))
  have q1 := ChgSW.cell (S := fun k => k = g ∨ k = w.heap.size ∨ k = w.heap.size + 1 ∨ k = w.heap.size + 1 + 1) (ch_B8.2) (by first | (unfold at1; simp only; omega) | (simp only; omega))
  clear ch_B8
  have ch_B9 := blk3 B9
  have q2 := ChgSW.cell (S := fun k => k = g ∨ k = w.heap.size ∨ k = w.heap.size + 1 ∨ k = w.heap.size + 1 + 1) (ch_B9.1) (by first | (unfold at1; simp only; omega) | (simp only; omega))
  have q3 := ChgSW.cell (S := fun k => k = g ∨ k = w.heap.size ∨ k = w.heap.size + 1 ∨ k = w.heap.size + 1 + 1) (ch_B9.2.1) (by first | (unfold at1; simp only; omega) | (simp only; omega))
  have q4 := ChgSW.cell (S := fun k => k = g ∨ k = w.heap.size ∨ k = w.heap.size + 1 ∨ k = w.heap.size + 1 + 1) (ch_B9.2.2) (by first | (unfold at1; simp only; omega) | (simp only; omega))
  clear ch_B9
  simp only [wpBlocksX, pickOps, PK]
  have hch : Chg (fun k => k = g ∨ k = w.heap.size ∨ k = w.heap.size + 1 ∨ k = w.heap.size + 1 + 1) wz1 wz1.drew := Chg.ofExt (Ext.refl wz1).drew
  replace B2 := Ext.block ((Ext.refl wz1).drew) B2
  replace B3 := Ext.block ((Ext.refl wz1).drew) B3
  replace B4 := Ext.block ((Ext.refl wz1).drew) B4
  replace B8 := Ext.block ((Ext.refl wz1).drew) B8
  replace B9 := Ext.block ((Ext.refl wz1).drew) B9
  replace RA := Own.ext RA ((Ext.refl wz1).drew)
  replace u_RA := Nat.le_trans u_RA ((Ext.refl wz1).drew).size
  replace RL := Own.ext RL ((Ext.refl wz1).drew)
  replace u_RL := Nat.le_trans u_RL ((Ext.refl wz1).drew).size
  replace RH := Own.ext RH ((Ext.refl wz1).drew)
  replace u_RH := Nat.le_trans u_RH ((Ext.refl wz1).drew).size
  replace s := s.ext ((Ext.refl wz1).drew)
  obtain ⟨wt, hnw⟩ : ∃ wn, wn = wz1.drew := ⟨_, rfl⟩
  rw [← hnw] at B2 B3 B4 B8 B9 RA RL RH u_RA u_RL u_RH s hch ⊢
  clear hnw
  repeat (first | go_big_quiet_step (fail) | quiet_step (fail))
  refine wpQuiet_nil ?_
  go_wp2_with fail
  refine (s_l12Draw g _ _ _ s.c).mono ?_
  rintro e w4 ⟨pl, rfl, hp1, hp2, hp3, hcq, hzq⟩
  replace B2 := hzq.blkS B2 (by unfold at1; omega)
  replace B3 := hzq.blkS B3 (by unfold at1; omega)
  replace B4 := hzq.blkS B4 (by unfold at1; omega)
  replace B8 := hzq.blkS B8 (by unfold at1; omega)
  replace B9 := hzq.blkS B9 (by unfold at1; omega)
  replace RA := Own.at1g RA hzq (.inl g_RA)
  replace u_RA := Nat.le_trans u_RA hzq.size
  replace RL := Own.at1g RL hzq (.inl g_RL)
  replace u_RL := Nat.le_trans u_RL hzq.size
  replace RH := Own.at1g RH hzq (.inl g_RH)
  replace u_RH := Nat.le_trans u_RH hzq.size
  replace s := s.draw hcq hzq
  replace hch := hch.trans (hzq.mono (fun b h => .inl h))
  clear hzq hcq
  go_wp2_with fail
  refine ⟨⟨⟨_, hch⟩, rfl⟩, ?_⟩
  repeat (first | go_big_quiet_step (fail) | quiet_step (fail))
  refine wpQuiet_nil ?_
  have hxe := hx0.trans (hn1.ofCur s.x hgl)
  obtain ⟨wpa, hwa, hba, hca⟩ := two_set B2 (.slice o1 t.ases.length c1) (.slice o2 t.links.length c2)
  have HWa := Lib.hid hwa
  clear hwa
  have ff0 := fr_of B2 0
  have ff1 := fr_of B2 1
  have cb := blk2 B2
  go_wp2_with fail
  rw [← HWa.out]
  clear HWa cb ff0 ff1
  replace hch := hch.trans (hca.mono (fun b h => .inr (.inl h)))
  refine ⟨⟨⟨_, hch⟩, rfl⟩, ?_⟩
  replace RA := Own.at1g RA hca (by omega)
  replace u_RA := Nat.le_trans u_RA hca.size
  replace RL := Own.at1g RL hca (by omega)
  replace u_RL := Nat.le_trans u_RL hca.size
  replace RH := Own.at1g RH hca (by omega)
  replace u_RH := Nat.le_trans u_RH hca.size
  replace B3 := hca.blkS B3 (by unfold at1; omega)
  replace B4 := hca.blkS B4 (by unfold at1; omega)
  replace B8 := hca.blkS B8 (by unfold at1; omega)
  replace B9 := hca.blkS B9 (by unfold at1; omega)
  replace B2 := hba
  clear hba
  replace hxe := hxe.chg hca (fun i hi => by have h1 : i = w.heap.size := hi; omega)
  try clear hca
  repeat (first | go_big_quiet_step (fail) | quiet_step (fail))
  refine wpQuiet_nil ?_
  obtain ⟨wpb, hwb, hbb, hcb⟩ := four_setQ B3 (.int .i64 pl.most) (.int .i64 pl.den) (.int .i64 pl.clo) (.int .i64 pl.life)
  have HWb := Lib.hid hwb
  clear hwb
  have ff0 := fr_of B3 0
  have ff1 := fr_of B3 1
  have ff2 := fr_of B3 2
  have ff3 := fr_of B3 3
  have cb := blk4 B3
  go_wp2_with fail
  rw [← HWb.out]
  clear HWb cb ff0 ff1 ff2 ff3
  replace hch := hch.trans (hcb.mono (fun b h => .inr (.inr (.inl h))))
  refine ⟨⟨⟨_, hch⟩, rfl⟩, ?_⟩
  replace RA := Own.at1g RA hcb (by omega)
  replace u_RA := Nat.le_trans u_RA hcb.size
  replace RL := Own.at1g RL hcb (by omega)
  replace u_RL := Nat.le_trans u_RL hcb.size
  replace RH := Own.at1g RH hcb (by omega)
  replace u_RH := Nat.le_trans u_RH hcb.size
  replace B2 := hcb.blkS B2 (by unfold at1; omega)
  replace B4 := hcb.blkS B4 (by unfold at1; omega)
  replace B8 := hcb.blkS B8 (by unfold at1; omega)
  replace B9 := hcb.blkS B9 (by unfold at1; omega)
  replace B3 := hbb
  clear hbb
  replace hxe := hxe.chg hcb (fun i hi => by have h1 : i = (w.heap.size + 1) := hi; omega)
  try clear hcb
  repeat (first | go_big_quiet_step (fail) | quiet_step (fail))
  refine wpQuiet_nil ?_
  obtain ⟨wpc, hwc, hbc, hcc⟩ := three_set B4 (.int .i64 y.ts) (.int .i64 y.beta) (.slice o_ay y.hops.length c_ay)
  have HWc := Lib.hid hwc
  clear hwc
  have ff0 := fr_of B4 0
  have ff1 := fr_of B4 1
  have ff2 := fr_of B4 2
  have cb := blk3 B4
  go_wp2_with fail
  rw [← HWc.out]
  clear HWc cb ff0 ff1 ff2
  replace hch := hch.trans (hcc.mono (fun b h => .inr (.inr (.inr h))))
  refine ⟨⟨⟨_, hch⟩, rfl⟩, ?_⟩
  replace RA := Own.at1g RA hcc (by omega)
  replace u_RA := Nat.le_trans u_RA hcc.size
  replace RL := Own.at1g RL hcc (by omega)
  replace u_RL := Nat.le_trans u_RL hcc.size
  replace RH := Own.at1g RH hcc (by omega)
  replace u_RH := Nat.le_trans u_RH hcc.size
  replace B2 := hcc.blkS B2 (by unfold at1; omega)
  replace B3 := hcc.blkS B3 (by unfold at1; omega)
  replace B8 := hcc.blkS B8 (by unfold at1; omega)
  replace B9 := hcc.blkS B9 (by unfold at1; omega)
  replace B4 := hbc
  clear hbc
  replace hxe := hxe.chg hcc (fun i hi => by have h1 : i = (w.heap.size + 1 + 1) := hi; omega)
  try clear hcc
  repeat (first | go_big_quiet_step (fail) | quiet_step (fail))
  refine wpQuiet_nil ?_
  refine NoPanic.normal ?_
  clear hch q0 q1 q2 q3 q4
  have cr_B2 := blk2 B2
  have cr_B3 := blk4 B3
  have cr_B4 := blk3 B4
  have cr_B8 := blk2 B8
  have cr_B9 := blk3 B9
  have hwb := (hx0.trans hn1).size
  go_wp2_with fail
  refine bodyPost_ret (v := .tuple #[.agg #[.slice o1 t.ases.length c1, .slice o2 t.links.length c2], .agg #[.int .i64 pl.most, .int .i64 pl.den, .int .i64 pl.clo, .int .i64 pl.life], .agg #[.int .i64 y.ts, .int .i64 y.beta, .slice o_ay y.hops.length c_ay], .int .i64 r, .int .i64 inn]) (by simp [results, Try.results14, go_sem, cr_B2, cr_B3, cr_B4]) rfl ?_
  exact ⟨_, _, _, t, pl, y, r, inn, rfl, TK, hp1, hp2, hp3, hy5, Own.rd _ RA, Own.rd _ RL, Own.rd _ RH, hxe⟩

end Go.Proofs.Ytcpfmhgfaliemaa
