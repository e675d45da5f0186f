/- What these laws need: FnForwards: What forwarding keeps of a packet, and its codes: plain laws. The contract of Forward, the program. What forwarding does: what it has checked where it goes on or delivers, and that it changes nothing where it does not. -/
import Derived.Test.YtcpfmhgfaliemaaGreatKF11
import Derived.Test.YtcpfmhgfaliemaaGreatKF24
namespace Go.Proofs.YtcpfmhgfaliemaaGreat
section
open Go.ChangeShapes Go.WideShapes Go.ChangeAt Go.RowKit Go.Deep
theorem fw_adv_pay (x : Pkt) : (advance x).pay = x.pay := by unfold advance; split; rfl; split <;> rfl
theorem fw_ver_pay (t : Topo) (x : Pkt) : (verCur t x).pay = x.pay := by unfold verCur; split <;> rfl
theorem fw_chkAll (t : Topo) (now : Int) : ∀ (f : Nat) (x : Pkt), (chkAll t now f x).2.path = x.path ∧ (chkAll t now f x).2.pay = x.pay
 | 0, x => ⟨verCur_path t x, fw_ver_pay t x⟩
 | f + 1, x => by
  unfold chkAll
  split
  ·
   have h := fw_chkAll t now f (advance (verCur t x)); rw [h.1, h.2, adv_path, fw_adv_pay]; exact ⟨verCur_path t x, fw_ver_pay t x⟩
  ·
   exact ⟨verCur_path t x, fw_ver_pay t x⟩
theorem fw_pp (t : Topo) (r now dead inn : Int) (x : Pkt) : (forward t r now dead inn x).pkt.path = x.path ∧ (forward t r now dead inn x).pkt.pay = x.pay := by
 have h := fw_chkAll t now x.path.parts.length x; unfold forward; simp only
 repeat' split
 all_goals first | exact ⟨rfl, rfl⟩ | exact h | exact ⟨(adv_path _).trans h.1, (fw_adv_pay _).trans h.2⟩
theorem fw_chk_nn (t : Topo) (now : Int) (x : Pkt) : 0 ≤ chkCode t now x := by unfold chkCode; split; split; all_goals omega
theorem fw_all_nn (t : Topo) (now : Int) : ∀ (f : Nat) (x : Pkt), 0 ≤ (chkAll t now f x).1
 | 0, x => fw_chk_nn t now x
 | f + 1, x => by
  unfold chkAll
  split
  ·
   exact fw_all_nn t now f _
  ·
   exact fw_chk_nn t now x
theorem fw_nn (t : Topo) (r now dead inn : Int) (x : Pkt) : 0 ≤ (forward t r now dead inn x).code := by
 have h := fw_all_nn t now x.path.parts.length x; unfold forward; simp only
 repeat' split
 all_goals first | exact h | (dsimp only; omega)
end
section
open Go.ChangeShapes Go.WideShapes Go.ChangeAt Go.RowKit Go.Deep
set_option maxRecDepth 100000 in
set_option maxHeartbeats 16000000 in
theorem i_Forward (t : Topo) (va vk : Value) (r now dead inn : Int) (x : Pkt) (v0 v1 : Value) (w : World) (ha : RdS ASd.rep w va t.ases) (hk : RdS Lnk.rep w vk t.links) (r0 : RdS Part.rep w v0 x.path.parts) (r1 : RdS Rep.byte w v1 x.pay) (hl : x.size ≤ 1048576) :
  Calls Tryz.prog 34 #[.agg #[va, vk], .int .i64 r, .int .i64 now, .int .i64 dead, .int .i64 inn, .agg #[.int .i64 x.kind, .int .i64 x.src, .int .i64 x.dst, v0, .int .i64 x.pi, .int .i64 x.hi, .int .i64 x.beta, .int .i64 x.rid, .int .i64 x.seq, v1]] w fun e w' => ∃ u0 u1, e = .returned (.agg #[.int .i64 (forward t r now dead inn x).code, .int .i64 (forward t r now dead inn x).eg, .int .i64 (forward t r now dead inn x).pkt.kind, .int .i64 (forward t r now dead inn x).pkt.src, .int .i64 (forward t r now dead inn x).pkt.dst, u0, .int .i64 (forward t r now dead inn x).pkt.pi, .int .i64 (forward t r now dead inn x).pkt.hi, .int .i64 (forward t r now dead inn x).pkt.beta, .int .i64 (forward t r now dead inn x).pkt.rid, .int .i64 (forward t r now dead inn x).pkt.seq, u1]) ∧ Pkt.own (rng w.heap.size w'.heap.size) w' u0 u1 (forward t r now dead inn x).pkt ∧ Ext w w' := by
 obtain ⟨o, cap, rfl, hsm⟩ := r0.shape; obtain ⟨oy, cy, rfl, hsy⟩ := r1.shape; have hx0 := ext3 w (.cells #[va, vk] 56) (.cells #[.int .i64 x.kind, .int .i64 x.src, .int .i64 x.dst, .slice o x.path.parts.length cap, .int .i64 x.pi, .int .i64 x.hi, .int .i64 x.beta, .int .i64 x.rid, .int .i64 x.seq, .slice oy x.pay.length cy] 58) (.cells #[.int .i64 0, .int .i64 0, .int .i64 0, .int .i64 0, .int .i64 0, .slice none 0 0, .int .i64 0, .int .i64 0, .int .i64 0, .int .i64 0, .int .i64 0, .slice none 0 0] 62); have HB0 := Lib.hid (al3 w (.cells #[va, vk] 56) (.cells #[.int .i64 x.kind, .int .i64 x.src, .int .i64 x.dst, .slice o x.path.parts.length cap, .int .i64 x.pi, .int .i64 x.hi, .int .i64 x.beta, .int .i64 x.rid, .int .i64 x.seq, .slice oy x.pay.length cy] 58) (.cells #[.int .i64 0, .int .i64 0, .int .i64 0, .int .i64 0, .int .i64 0, .slice none 0 0, .int .i64 0, .int .i64 0, .int .i64 0, .int .i64 0, .int .i64 0, .slice none 0 0] 62))
 go_enter Tryz.func34, Tryz.ntmps34
 have cf1 := blk2 HB0.out.1; have cf2 := blk10 HB0.out.2.1; have cf3 := blk12 HB0.out.2.2
 go_wp2_with fail
 refine (i_decide t _ _ r now dead inn x _ _ _ (ha.ext hx0) (hk.ext hx0) (r0.ext hx0) (r1.ext hx0) hl).mono ?_; rintro e w1 ⟨u0, u1, out, rfl, oo, hz1⟩; generalize hv : (forward t r now dead inn x) = v at *; have HV := Lib.hid hv; clear hv; obtain ⟨o1, c1, rfl, _⟩ := (Pkt.own_rd0 oo).shape; obtain ⟨o2, c2, rfl, _⟩ := (Pkt.own_rd1 oo).shape; have hs1 : w.heap.size + 1 + 1 + 1 ≤ w1.heap.size := by simpa using hz1.size
 have OO := Lib.hid oo; clear oo
 try clear cf1
 try clear cf2
 try clear cf3
 have cf4 := blk2 (Ext.block hz1 HB0.out.1); have cf5 := blk10 (Ext.block hz1 HB0.out.2.1); have cf6 := blk12 (Ext.block hz1 HB0.out.2.2); have hx1 : Ext w1 (w1.alloc (.cells #[.int .i64 v.code, .int .i64 v.eg, .int .i64 v.pkt.kind, .int .i64 v.pkt.src, .int .i64 v.pkt.dst, (.slice o1 v.pkt.path.parts.length c1), .int .i64 v.pkt.pi, .int .i64 v.pkt.hi, .int .i64 v.pkt.beta, .int .i64 v.pkt.rid, .int .i64 v.pkt.seq, (.slice o2 v.pkt.pay.length c2)] 62)) := (Ext.refl _).alloc _; have HB1 := Lib.hid (blk_new w1 (.cells #[.int .i64 v.code, .int .i64 v.eg, .int .i64 v.pkt.kind, .int .i64 v.pkt.src, .int .i64 v.pkt.dst, (.slice o1 v.pkt.path.parts.length c1), .int .i64 v.pkt.pi, .int .i64 v.pkt.hi, .int .i64 v.pkt.beta, .int .i64 v.pkt.rid, .int .i64 v.pkt.seq, (.slice o2 v.pkt.pay.length c2)] 62)); have hsz := hx1.size; have hso : w1.heap.size < (w1.alloc (.cells #[.int .i64 v.code, .int .i64 v.eg, .int .i64 v.pkt.kind, .int .i64 v.pkt.src, .int .i64 v.pkt.dst, (.slice o1 v.pkt.path.parts.length c1), .int .i64 v.pkt.pi, .int .i64 v.pkt.hi, .int .i64 v.pkt.beta, .int .i64 v.pkt.rid, .int .i64 v.pkt.seq, (.slice o2 v.pkt.pay.length c2)] 62)).heap.size := blk_lt HB1.out; have hR := Ext.block (hz1.t hx1) HB0.out.2.2
 obtain ⟨wc, hwc, hrc, hcc, hsc⟩ := vd_set hR (.int .i64 v.code) (.int .i64 v.eg) (.int .i64 v.pkt.kind) (.int .i64 v.pkt.src) (.int .i64 v.pkt.dst) ((.slice o1 v.pkt.path.parts.length c1)) (.int .i64 v.pkt.pi) (.int .i64 v.pkt.hi) (.int .i64 v.pkt.beta) (.int .i64 v.pkt.rid) (.int .i64 v.pkt.seq) ((.slice o2 v.pkt.pay.length c2)); have HOW := Lib.hid (Pkt.own_kept (Pkt.own_ext OO.out hx1) hcc (fun b hb e => by have h1 := hb.1; have h2 := hb.2; simp at h1; omega)); have HXX := Lib.hid (((hx0.t hz1).t hx1).chg1 hcc (by omega)); have HWC := Lib.hid hwc; have HRC := Lib.hid hrc; have hsz2 : (w1.alloc (.cells #[.int .i64 v.code, .int .i64 v.eg, .int .i64 v.pkt.kind, .int .i64 v.pkt.src, .int .i64 v.pkt.dst, (.slice o1 v.pkt.path.parts.length c1), .int .i64 v.pkt.pi, .int .i64 v.pkt.hi, .int .i64 v.pkt.beta, .int .i64 v.pkt.rid, .int .i64 v.pkt.seq, (.slice o2 v.pkt.pay.length c2)] 62)).heap.size = wc.heap.size := by rw [hsc]
 have hRF := fun o => fr_of hR o
 have gr0 := hRF 0; have gr1 := hRF 1; have gr2 := hRF 2; have gr3 := hRF 3; have gr4 := hRF 4; have gr5 := hRF 5; have gr6 := hRF 6; have gr7 := hRF 7; have gr8 := hRF 8; have gr9 := hRF 9; have gr10 := hRF 10; have gr11 := hRF 11; clear hRF hR  hwc hrc hcc hsc; have cf7 := blk2 (Ext.block (hz1.t hx1) HB0.out.1); have cf8 := blk10 (Ext.block (hz1.t hx1) HB0.out.2.1); have cf9 := blk12 (Ext.block (hz1.t hx1) HB0.out.2.2); have cf10 := blk12 HB1.out
 go_wp2_with fail
 rw [← HWC.out]; clear gr0 gr1 gr2 gr3 gr4 gr5 gr6 gr7 gr8 gr9 gr10 gr11 cf7 cf8 cf9 cf10; have cc := blk12 HRC.out; refine bodyPost_ret (v := .agg #[.int .i64 v.code, .int .i64 v.eg, .int .i64 v.pkt.kind, .int .i64 v.pkt.src, .int .i64 v.pkt.dst, (.slice o1 v.pkt.path.parts.length c1), .int .i64 v.pkt.pi, .int .i64 v.pkt.hi, .int .i64 v.pkt.beta, .int .i64 v.pkt.rid, .int .i64 v.pkt.seq, (.slice o2 v.pkt.pay.length c2)]) (by simp [results, Tryz.results34, go_sem, cc]) rfl ?_; rw [HV.out]; exact ⟨_, _, rfl, Pkt.own_mono HOW.out (fun b hb => ⟨by have h1 := hb.1; simp at h1; omega, by have h2 := hb.2; omega⟩), HXX.out⟩
end
section
open Go.RowKit
theorem fw_no (t : Topo) (r now dead inn : Int) (x : Pkt) : 1 < (forward t r now dead inn x).code → (forward t r now dead inn x).eg = 0 ∧ (forward t r now dead inn x).pkt = x := by
 unfold forward; simp only
 repeat' split
 all_goals first | exact fun _ => ⟨rfl, rfl⟩ | (intro h; dsimp only at h; omega)
theorem chk_first {t : Topo} {now : Int} : ∀ (f : Nat) (x : Pkt), (chkAll t now f x).1 = 0 → chkCode t now x = 0
 | 0, _, h => h
 | f + 1, x, h => by
  unfold chkAll at h
  split at h
  ·
   rename_i hc
   simp only [Bool.and_eq_true, beq_iff_eq] at hc; exact hc.1.1
  ·
   exact h
theorem partEg_pos {t : Topo} {ps : List Part} (G : GoodP t ps) {j i : Nat} (hj : j < ps.length) (hi : i + 1 < (partAt ps j).hops.length) : 1 ≤ partEg (partAt ps j) i := by
 have h1 := G.join j hj i hi; unfold joinAt at h1; simp only [Bool.and_eq_true, bne_iff_ne] at h1; have h2 := G.vh j hj i (by omega); unfold validHop at h2; simp only [Bool.and_eq_true] at h2; have h3 := inR_true.1 h2.1.1.1.1.2; have h4 := inR_true.1 h2.1.1.1.2; have h5 := h1.1.1; rw [hopAt_at (by omega)] at h3 h4; rw [partEg_at (show i < (partAt ps j).hops.length by omega)] at h5 ⊢
 rcases hopEg_or (partAt ps j).kind (partAt ps j).hops[i] with h6 | h6 <;> rw [h6] at h5 ⊢ <;> omega
theorem forwards (t : Topo) (r now dead door : Int) (x : Pkt) (h : ¬ 1 < (forward t r now dead door x).code) :
  hasHop x = true ∧ curAs x = r ∧ (curHop x).asn = r ∧ curOk t x = true ∧ curIn x now = true ∧ simple t x.path = true ∧
  ((forward t r now dead door x).code = 1 → (forward t r now dead door x).eg = 0 ∧ x.dst = r ∧ atLast (forward t r now dead door x).pkt = true) ∧
  ((forward t r now dead door x).code ≠ 1 → 1 ≤ (forward t r now dead door x).eg ∧ inSet dead (forward t r now dead door x).eg = false ∧ (forward t r now dead door x).eg ≠ door ∧
   curAs (forward t r now dead door x).pkt = (remEnd t r (forward t r now dead door x).eg).1 ∧ stepOk t ⟨r, door, (forward t r now dead door x).eg⟩ = true) := by
 have hn := fw_nn t r now dead door x
 obtain ⟨v, hv⟩ : ∃ v, v = forward t r now dead door x := ⟨_, rfl⟩
 rw [← hv] at h hn ⊢
 obtain ⟨cd, eg, z⟩ := v; simp only at h hn ⊢
 have hc : cd = 0 ∨ cd = 1 := by omega
 obtain ⟨hv1, hs, hr, _, hch, h1, h0⟩ := fw_ok hv.symm hc; have hx := vp_hop hv1; obtain ⟨_, hok, hci⟩ := chk_hop (chk_first _ _ hch); refine ⟨hx, hr, by rw [← curAs_of hx]; exact hr, hok, hci, hs, fun e => ?_, fun e => ?_⟩
 ·
  obtain ⟨_, a2, a3, a4, a5⟩ := h1 e; exact ⟨a3, a2, by rw [a4]; exact a5⟩
 ·
  have e0 : cd = 0 := by omega
  obtain ⟨_, a2, _, _, _, a6, a7, _, a9, a10⟩ := h0 e0; have G := good_of_simple hs; obtain ⟨y1, _, y3, _, _, _⟩ := chk_walk x.path.parts.length x G hx hch (by omega); obtain ⟨p0, p1, p2, p3⟩ := hasHop_iff.1 y3
  have hlt : (chkAll t now x.path.parts.length x).2.hi.toNat + 1 < (curPart (chkAll t now x.path.parts.length x).2).hops.length := by
   have h9 : ¬ (chkAll t now x.path.parts.length x).2.hi.toNat + 1 = (curPart (chkAll t now x.path.parts.length x).2).hops.length := fun q => a10 ((lastOf_iff y3).2 q)
   omega
  have hpos : 1 ≤ eg := by
   have h8 := partEg_pos (t := t) (ps := (chkAll t now x.path.parts.length x).2.path.parts) (by rw [y1]; exact G) p1 hlt; rw [a9]; rw [show (((chkAll t now x.path.parts.length x).2.hi.toNat : Nat) : Int) = (chkAll t now x.path.parts.length x).2.hi by omega] at h8; exact h8
  refine ⟨hpos, a7, fun q => ?_, by rw [a2], a6⟩; subst q; unfold stepOk at a6; simp only [Bool.and_eq_true, Bool.or_eq_true, bne_iff_ne, ne_eq, not_true, false_or, beq_iff_eq] at a6; omega
end
end Go.Proofs.YtcpfmhgfaliemaaGreat
