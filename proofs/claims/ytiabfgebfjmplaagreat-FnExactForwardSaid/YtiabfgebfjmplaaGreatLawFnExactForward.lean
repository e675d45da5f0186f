/- Verdicts: what they own, and the contracts of the laws' helper functions over them. No condition but the bounds that each theorem names. The contract of Forward, the program. No condition but the bounds that it names. The walk of the exact law over Forward. No condition. The law FnExactForward: for every input the call returns true, and each argument reads afterwards as it read before. No condition. -/
import Derived.Test.YtiabfgebfjmplaaGreatPlain28
import Derived.Test.YtiabfgebfjmplaaGreatTyTrc
import Derived.Test.YtiabfgebfjmplaaGreatW28d
import Derived.Test.YtiabfgebfjmplaaGreatTyTopoM
namespace Go.Proofs.YtiabfgebfjmplaaGreat
open Go.ChangeShapes Go.WideShapes Go.ChangeAt Go.RowKit Go.Deep

def Vd.own (S : Nat → Prop) (w : World) (h0 h1 : Value) (x : Vd) : Prop := Pkt.own S w h0 h1 x.pkt
theorem Vd.own_kept {S T : Nat → Prop} {w w' : World} {h0 h1 : Value} {x : Vd} (h : Vd.own S w h0 h1 x) (c : Chg T w w') (hs : ∀ b, S b → ¬ T b) : Vd.own S w' h0 h1 x := Pkt.own_kept h c hs
theorem Vd.own_ext {S : Nat → Prop} {w w' : World} {h0 h1 : Value} {x : Vd} (h : Vd.own S w h0 h1 x) (e : Ext w w') : Vd.own S w' h0 h1 x := Pkt.own_ext h e
theorem Vd.own_mono {S T : Nat → Prop} {w : World} {h0 h1 : Value} {x : Vd} (h : Vd.own S w h0 h1 x) (hs : ∀ b, S b → T b) : Vd.own T w h0 h1 x := Pkt.own_mono h hs
theorem Vd.own_rd0 {S : Nat → Prop} {w : World} {h0 h1 : Value} {x : Vd} (h : Vd.own S w h0 h1 x) : RdS Part.rep w h0 x.pkt.path.parts := Pkt.own_rd0 h
theorem Vd.own_rd1 {S : Nat → Prop} {w : World} {h0 h1 : Value} {x : Vd} (h : Vd.own S w h0 h1 x) : RdS Rep.byte w h1 x.pkt.pay := Pkt.own_rd1 h
def Vd.cnt (x : Vd) : Int := x.pkt.cnt
def Vd.marked (k : Int) (x : Vd) : Vd := { x with pkt := Pkt.marked k x.pkt }
set_option maxHeartbeats 4000000 in
theorem l_eqVerdict (x y : Vd) (v0 v1 u0 u1 : Value) (w : World) (r0 : RdS Part.rep w v0 x.pkt.path.parts) (r1 : RdS Rep.byte w v1 x.pkt.pay) (s0 : RdS Part.rep w u0 y.pkt.path.parts) (s1 : RdS Rep.byte w u1 y.pkt.pay) :
    Calls Tryz.prog 30 #[.agg #[.int .i64 x.code, .int .i64 x.eg, .int .i64 x.pkt.kind, .int .i64 x.pkt.src, .int .i64 x.pkt.dst, v0, .int .i64 x.pkt.pi, .int .i64 x.pkt.hi, .int .i64 x.pkt.beta, .int .i64 x.pkt.rid, .int .i64 x.pkt.seq, v1], .agg #[.int .i64 y.code, .int .i64 y.eg, .int .i64 y.pkt.kind, .int .i64 y.pkt.src, .int .i64 y.pkt.dst, u0, .int .i64 y.pkt.pi, .int .i64 y.pkt.hi, .int .i64 y.pkt.beta, .int .i64 y.pkt.rid, .int .i64 y.pkt.seq, u1]] w fun e w' => e = .returned (.bool (decide (x = y))) ∧ Ext w w' := by
  have heq : decide (x = y) = (!(x.code != y.code) && (!(x.eg != y.eg) && decide (x.pkt = y.pkt))) := by
    cases x; cases y; simp only [nbne, Vd.mk.injEq, Bool.decide_and]
  have HEQ := Lib.hid heq; clear heq
  go_enter Tryz.func30, Tryz.ntmps30
  have hx0 := ext2 w (.cells #[.int .i64 x.code, .int .i64 x.eg, .int .i64 x.pkt.kind, .int .i64 x.pkt.src, .int .i64 x.pkt.dst, v0, .int .i64 x.pkt.pi, .int .i64 x.pkt.hi, .int .i64 x.pkt.beta, .int .i64 x.pkt.rid, .int .i64 x.pkt.seq, v1] 66) (.cells #[.int .i64 y.code, .int .i64 y.eg, .int .i64 y.pkt.kind, .int .i64 y.pkt.src, .int .i64 y.pkt.dst, u0, .int .i64 y.pkt.pi, .int .i64 y.pkt.hi, .int .i64 y.pkt.beta, .int .i64 y.pkt.rid, .int .i64 y.pkt.seq, u1] 66)
  cases hc : (x.code != y.code)
  · rw [hc] at HEQ
    cases hd : (x.eg != y.eg)
    · rw [hd] at HEQ
      go_wp2_with fail
      refine (l_eqPacket x.pkt y.pkt _ _ _ _ _ (r0.ext hx0) (r1.ext hx0) (s0.ext hx0) (s1.ext hx0)).mono ?_
      rintro e w1 ⟨rfl, k1⟩
      cases hr : decide (x.pkt = y.pkt)
      · rw [hr] at HEQ
        go_wp2_with fail
        go_ret
        exact ⟨ret_bool HEQ.out.symm, hx0.trans k1⟩
      · rw [hr] at HEQ
        go_wp2_with fail
        go_ret
        exact ⟨ret_bool HEQ.out.symm, hx0.trans k1⟩
    · rw [hd] at HEQ
      go_wp2_with fail
      go_ret
      exact ⟨ret_bool HEQ.out.symm, hx0⟩
  · rw [hc] at HEQ
    go_wp2_with fail
    go_ret
    exact ⟨ret_bool HEQ.out.symm, hx0⟩
set_option maxHeartbeats 1000000 in
theorem l_markVerdict (x : Vd) (h0 h1 : Value) (k : Int) (S : Nat → Prop) (w : World) (o : Vd.own S w h0 h1 x) (hk : 0 ≤ k) (hm : k + x.cnt ≤ 4611686018427387904) :
    Calls Tryz.prog 31 #[.agg #[.int .i64 x.code, .int .i64 x.eg, .int .i64 x.pkt.kind, .int .i64 x.pkt.src, .int .i64 x.pkt.dst, h0, .int .i64 x.pkt.pi, .int .i64 x.pkt.hi, .int .i64 x.pkt.beta, .int .i64 x.pkt.rid, .int .i64 x.pkt.seq, h1], .int .i64 k] w fun e w' => e = .returned (.int .i64 (k + x.cnt)) ∧ Vd.own S w' h0 h1 (Vd.marked k x) ∧ Chg S w w' := by
  have hx0 : Ext w (w.alloc (.cells #[.int .i64 x.code, .int .i64 x.eg, .int .i64 x.pkt.kind, .int .i64 x.pkt.src, .int .i64 x.pkt.dst, h0, .int .i64 x.pkt.pi, .int .i64 x.pkt.hi, .int .i64 x.pkt.beta, .int .i64 x.pkt.rid, .int .i64 x.pkt.seq, h1] 66)) := (Ext.refl _).alloc _
  go_enter Tryz.func31, Tryz.ntmps31
  go_wp2_with fail
  refine (l_markPacket x.pkt _ _ k S _ (Vd.own_ext o hx0) hk hm).mono ?_
  rintro e w1 ⟨rfl, o1, d1⟩
  go_wp2_with fail
  go_ret
  exact ⟨rfl, o1, (Chg.ofExt hx0).trans d1⟩
set_option maxHeartbeats 1000000 in
theorem l_heldVerdict (x : Vd) (h0 h1 : Value) (k : Int) (w : World) (r0 : RdS Part.rep w h0 (Vd.marked k x).pkt.path.parts) (r1 : RdS Rep.byte w h1 (Vd.marked k x).pkt.pay) (hk : 0 ≤ k) (hm : k + x.cnt ≤ 4611686018427387904) :
    Calls Tryz.prog 32 #[.agg #[.int .i64 x.code, .int .i64 x.eg, .int .i64 x.pkt.kind, .int .i64 x.pkt.src, .int .i64 x.pkt.dst, h0, .int .i64 x.pkt.pi, .int .i64 x.pkt.hi, .int .i64 x.pkt.beta, .int .i64 x.pkt.rid, .int .i64 x.pkt.seq, h1], .int .i64 k] w fun e w' => e = .returned (.int .i64 (k + x.cnt)) ∧ Ext w w' := by
  have hx0 : Ext w (w.alloc (.cells #[.int .i64 x.code, .int .i64 x.eg, .int .i64 x.pkt.kind, .int .i64 x.pkt.src, .int .i64 x.pkt.dst, h0, .int .i64 x.pkt.pi, .int .i64 x.pkt.hi, .int .i64 x.pkt.beta, .int .i64 x.pkt.rid, .int .i64 x.pkt.seq, h1] 66)) := (Ext.refl _).alloc _
  have hcn : 0 ≤ x.cnt := Pkt.cnt_nn x.pkt
  go_enter Tryz.func32, Tryz.ntmps32
  go_wp2_with fail
  refine (l_heldPacket x.pkt _ _ k _ (r0.ext hx0) (r1.ext hx0) hk hm).mono ?_
  rintro e w1 ⟨rfl, k1⟩
  have hp : ¬ k + x.pkt.cnt < 0 := by unfold Vd.cnt at hcn; omega
  go_wp2_with fail
  go_ret
  exact ⟨rfl, hx0.trans k1⟩

set_option maxRecDepth 100000 in
set_option maxHeartbeats 16000000 in
theorem i_Forward (t : Topo) (va vk : Value) (r now dead inn : Int) (x : Pkt) (v0 v1 : Value) (w : World) (ha : RdS ASd.rep w va t.ases) (hk : RdS Lnk.rep w vk t.links) (r0 : RdS Part.rep w v0 x.path.parts) (r1 : RdS Rep.byte w v1 x.pay) (hl : x.size ≤ 1048576) :
    Calls Tryz.prog 29 #[.agg #[va, vk], .int .i64 r, .int .i64 now, .int .i64 dead, .int .i64 inn, .agg #[.int .i64 x.kind, .int .i64 x.src, .int .i64 x.dst, v0, .int .i64 x.pi, .int .i64 x.hi, .int .i64 x.beta, .int .i64 x.rid, .int .i64 x.seq, v1]] w fun e w' => ∃ u0 u1, e = .returned (.agg #[.int .i64 (forward t r now dead inn x).code, .int .i64 (forward t r now dead inn x).eg, .int .i64 (forward t r now dead inn x).pkt.kind, .int .i64 (forward t r now dead inn x).pkt.src, .int .i64 (forward t r now dead inn x).pkt.dst, u0, .int .i64 (forward t r now dead inn x).pkt.pi, .int .i64 (forward t r now dead inn x).pkt.hi, .int .i64 (forward t r now dead inn x).pkt.beta, .int .i64 (forward t r now dead inn x).pkt.rid, .int .i64 (forward t r now dead inn x).pkt.seq, u1]) ∧ Pkt.own (rng w.heap.size w'.heap.size) w' u0 u1 (forward t r now dead inn x).pkt ∧ Ext w w' := by
  obtain ⟨o, cap, rfl, hsm⟩ := r0.shape
  obtain ⟨oy, cy, rfl, hsy⟩ := r1.shape
  have hx0 := ext3 w (.cells #[va, vk] 47) (.cells #[.int .i64 x.kind, .int .i64 x.src, .int .i64 x.dst, .slice o x.path.parts.length cap, .int .i64 x.pi, .int .i64 x.hi, .int .i64 x.beta, .int .i64 x.rid, .int .i64 x.seq, .slice oy x.pay.length cy] 40) (.cells #[.int .i64 0, .int .i64 0, .int .i64 0, .int .i64 0, .int .i64 0, .slice none 0 0, .int .i64 0, .int .i64 0, .int .i64 0, .int .i64 0, .int .i64 0, .slice none 0 0] 66)
  have HB0 := Lib.hid (al3 w (.cells #[va, vk] 47) (.cells #[.int .i64 x.kind, .int .i64 x.src, .int .i64 x.dst, .slice o x.path.parts.length cap, .int .i64 x.pi, .int .i64 x.hi, .int .i64 x.beta, .int .i64 x.rid, .int .i64 x.seq, .slice oy x.pay.length cy] 40) (.cells #[.int .i64 0, .int .i64 0, .int .i64 0, .int .i64 0, .int .i64 0, .slice none 0 0, .int .i64 0, .int .i64 0, .int .i64 0, .int .i64 0, .int .i64 0, .slice none 0 0] 66))
  go_enter Tryz.func29, Tryz.ntmps29
  have cf1 := blk2 HB0.out.1
  have cf2 := blk10 HB0.out.2.1
  have cf3 := blk12 HB0.out.2.2
  go_wp2_with fail
  refine (i_decide t _ _ r now dead inn x _ _ _ (ha.ext hx0) (hk.ext hx0) (r0.ext hx0) (r1.ext hx0) hl).mono ?_
  rintro e w1 ⟨u0, u1, out, rfl, oo, hz1⟩
  generalize hv : (forward t r now dead inn x) = v at *
  have HV := Lib.hid hv; clear hv
  obtain ⟨o1, c1, rfl, _⟩ := (Pkt.own_rd0 oo).shape
  obtain ⟨o2, c2, rfl, _⟩ := (Pkt.own_rd1 oo).shape
  have hs1 : w.heap.size + 1 + 1 + 1 ≤ w1.heap.size := by simpa using hz1.size
  have OO := Lib.hid oo; clear oo
  try clear cf1
  try clear cf2
  try clear cf3
  have cf4 := blk2 (Ext.block hz1 HB0.out.1)
  have cf5 := blk10 (Ext.block hz1 HB0.out.2.1)
  have cf6 := blk12 (Ext.block hz1 HB0.out.2.2)
  have hx1 : Ext w1 (w1.alloc (.cells #[.int .i64 v.code, .int .i64 v.eg, .int .i64 v.pkt.kind, .int .i64 v.pkt.src, .int .i64 v.pkt.dst, (.slice o1 v.pkt.path.parts.length c1), .int .i64 v.pkt.pi, .int .i64 v.pkt.hi, .int .i64 v.pkt.beta, .int .i64 v.pkt.rid, .int .i64 v.pkt.seq, (.slice o2 v.pkt.pay.length c2)] 66)) := (Ext.refl _).alloc _
  have HB1 := Lib.hid (blk_new w1 (.cells #[.int .i64 v.code, .int .i64 v.eg, .int .i64 v.pkt.kind, .int .i64 v.pkt.src, .int .i64 v.pkt.dst, (.slice o1 v.pkt.path.parts.length c1), .int .i64 v.pkt.pi, .int .i64 v.pkt.hi, .int .i64 v.pkt.beta, .int .i64 v.pkt.rid, .int .i64 v.pkt.seq, (.slice o2 v.pkt.pay.length c2)] 66))
  have hsz := hx1.size
  have hso : w1.heap.size < (w1.alloc (.cells #[.int .i64 v.code, .int .i64 v.eg, .int .i64 v.pkt.kind, .int .i64 v.pkt.src, .int .i64 v.pkt.dst, (.slice o1 v.pkt.path.parts.length c1), .int .i64 v.pkt.pi, .int .i64 v.pkt.hi, .int .i64 v.pkt.beta, .int .i64 v.pkt.rid, .int .i64 v.pkt.seq, (.slice o2 v.pkt.pay.length c2)] 66)).heap.size := blk_lt HB1.out
  have hR := Ext.block (hz1.trans hx1) HB0.out.2.2
  obtain ⟨wc, hwc, hrc, hcc, hsc⟩ := vd_set hR (.int .i64 v.code) (.int .i64 v.eg) (.int .i64 v.pkt.kind) (.int .i64 v.pkt.src) (.int .i64 v.pkt.dst) ((.slice o1 v.pkt.path.parts.length c1)) (.int .i64 v.pkt.pi) (.int .i64 v.pkt.hi) (.int .i64 v.pkt.beta) (.int .i64 v.pkt.rid) (.int .i64 v.pkt.seq) ((.slice o2 v.pkt.pay.length c2))
  have HOW := Lib.hid (Pkt.own_kept (Pkt.own_ext OO.out hx1) hcc (fun b hb e => by have h1 := hb.1; have h2 := hb.2; simp at h1; omega))
  have HXX := Lib.hid (((hx0.trans hz1).trans hx1).chg1 hcc (by omega))
  have HWC := Lib.hid hwc
  have HRC := Lib.hid hrc
  have hsz2 : (w1.alloc (.cells #[.int .i64 v.code, .int .i64 v.eg, .int .i64 v.pkt.kind, .int .i64 v.pkt.src, .int .i64 v.pkt.dst, (.slice o1 v.pkt.path.parts.length c1), .int .i64 v.pkt.pi, .int .i64 v.pkt.hi, .int .i64 v.pkt.beta, .int .i64 v.pkt.rid, .int .i64 v.pkt.seq, (.slice o2 v.pkt.pay.length c2)] 66)).heap.size = wc.heap.size := by rw [hsc]
  have hRF := fun o => fr_of hR o
  have gr0 := hRF 0
  have gr1 := hRF 1
  have gr2 := hRF 2
  have gr3 := hRF 3
  have gr4 := hRF 4
  have gr5 := hRF 5
  have gr6 := hRF 6
  have gr7 := hRF 7
  have gr8 := hRF 8
  have gr9 := hRF 9
  have gr10 := hRF 10
  have gr11 := hRF 11
  clear hRF hR  hwc hrc hcc hsc
  have cf7 := blk2 (Ext.block (hz1.trans hx1) HB0.out.1)
  have cf8 := blk10 (Ext.block (hz1.trans hx1) HB0.out.2.1)
  have cf9 := blk12 (Ext.block (hz1.trans hx1) HB0.out.2.2)
  have cf10 := blk12 HB1.out
  go_wp2_with fail
  rw [← HWC.out]
  clear gr0 gr1 gr2 gr3 gr4 gr5 gr6 gr7 gr8 gr9 gr10 gr11 cf7 cf8 cf9 cf10
  have cc := blk12 HRC.out
  refine bodyPost_ret (v := .agg #[.int .i64 v.code, .int .i64 v.eg, .int .i64 v.pkt.kind, .int .i64 v.pkt.src, .int .i64 v.pkt.dst, (.slice o1 v.pkt.path.parts.length c1), .int .i64 v.pkt.pi, .int .i64 v.pkt.hi, .int .i64 v.pkt.beta, .int .i64 v.pkt.rid, .int .i64 v.pkt.seq, (.slice o2 v.pkt.pay.length c2)]) (by simp [results, Tryz.results29, go_sem, cc]) rfl ?_
  rw [HV.out]
  exact ⟨_, _, rfl, Pkt.own_mono HOW.out (fun b hb => ⟨by have h1 := hb.1; simp at h1; omega, by have h2 := hb.2; omega⟩), HXX.out⟩


theorem adv_pay (x : Pkt) : (advance x).pay = x.pay := by unfold advance; split; rfl; split <;> rfl
theorem verCur_pay (t : Topo) (x : Pkt) : (verCur t x).pay = x.pay := by unfold verCur; split <;> rfl
theorem chkAll_pp (t : Topo) (now : Int) : ∀ (f : Nat) (x : Pkt), (chkAll t now f x).2.path = x.path ∧ (chkAll t now f x).2.pay = x.pay
  | 0, x => ⟨verCur_path t x, verCur_pay t x⟩
  | f + 1, x => by
    unfold chkAll
    split
    · have h := chkAll_pp t now f (advance (verCur t x))
      rw [h.1, h.2, adv_path, adv_pay]; exact ⟨verCur_path t x, verCur_pay t x⟩
    · exact ⟨verCur_path t x, verCur_pay t x⟩
theorem forward_pp (t : Topo) (r now dead inn : Int) (x : Pkt) : (forward t r now dead inn x).pkt.path = x.path ∧ (forward t r now dead inn x).pkt.pay = x.pay := by
  have h := chkAll_pp t now x.path.parts.length x
  unfold forward
  simp only
  repeat' split
  all_goals first | exact ⟨rfl, rfl⟩ | exact h | exact ⟨(adv_path _).trans h.1, (adv_pay _).trans h.2⟩
theorem forward_cnt (t : Topo) (r now dead inn : Int) (x : Pkt) : (forward t r now dead inn x).cnt = x.cnt := by
  have h := forward_pp t r now dead inn x
  unfold Vd.cnt Pkt.cnt; rw [h.1, h.2]
set_option maxRecDepth 100000 in
set_option maxHeartbeats 8000000 in
theorem l_FnExactForward (a0 : Topo) (v0h0 : Value) (v0h1 : Value) (a1 : Int) (a2 : Int) (a3 : Int) (a4 : Int) (a5 : Pkt) (v5h0 : Value) (v5h1 : Value) (w : World) (r0h0 : RdS ASd.rep w v0h0 a0.ases) (r0h1 : RdS Lnk.rep w v0h1 a0.links) (_ : a0.ok) (_ : I64 a1) (_ : I64 a2) (_ : I64 a3) (_ : I64 a4) (r5h0 : RdS Part.rep w v5h0 a5.path.parts) (r5h1 : RdS Rep.byte w v5h1 a5.pay) (_ : a5.ok) :
    Calls Tryz.prog 5 #[.agg #[v0h0, v0h1], .int .i64 a1, .int .i64 a2, .int .i64 a3, .int .i64 a4, .agg #[.int .i64 a5.kind, .int .i64 a5.src, .int .i64 a5.dst, v5h0, .int .i64 a5.pi, .int .i64 a5.hi, .int .i64 a5.beta, .int .i64 a5.rid, .int .i64 a5.seq, v5h1]] w fun e w' => e = .returned (.bool true) ∧ Ext w w' := by
  go_enter Tryz.func5, Tryz.ntmps5
  have e0 : Ext w (w.alloc (.cells #[v0h0, v0h1] 25)) := (Ext.refl _).alloc _
  have hB0 := blk_new w (.cells #[v0h0, v0h1] 25)
  have HB0 := Lib.hid hB0; clear hB0
  have e1 : Ext (w.alloc (.cells #[v0h0, v0h1] 25)) ((w.alloc (.cells #[v0h0, v0h1] 25)).alloc (.cells #[.int .i64 a5.kind, .int .i64 a5.src, .int .i64 a5.dst, v5h0, .int .i64 a5.pi, .int .i64 a5.hi, .int .i64 a5.beta, .int .i64 a5.rid, .int .i64 a5.seq, v5h1] 32)) := (Ext.refl _).alloc _
  have hB1 := blk_new (w.alloc (.cells #[v0h0, v0h1] 25)) (.cells #[.int .i64 a5.kind, .int .i64 a5.src, .int .i64 a5.dst, v5h0, .int .i64 a5.pi, .int .i64 a5.hi, .int .i64 a5.beta, .int .i64 a5.rid, .int .i64 a5.seq, v5h1] 32)
  simp only [nblk_alloc] at hB1
  have HB1 := Lib.hid hB1; clear hB1
  have hc1 := blk2 (Ext.block e1 HB0.out)
  go_wp2_with fail
  refine (l_szTopology a0 v0h0 v0h1 (1048576) _ (r0h0.ext (e0.trans e1)) (r0h1.ext (e0.trans e1)) (by omega) (by omega)).mono ?_
  rintro e w3 ⟨rfl, h3⟩
  rcases Int.lt_or_le (1048576 - (a0.size : Int)) 0 with z0 | z0
  · rw [show szL (1048576) a0.size = -1 from if_pos z0]
    go_wp2_with fail
    go_ret
    exact ⟨rfl, ((e0.trans e1).trans h3)⟩
  rw [show szL (1048576) a0.size = 1048576 - (a0.size : Int) from if_neg (by omega)]
  have hc3 := blk2 (Ext.block (e1.trans h3) HB0.out)
  have hc4 := blk10 (Ext.block h3 HB1.out)
  go_wp2_with fail
  refine (l_szPacket a5 v5h0 v5h1 (1048576 - (a0.size : Int)) _ (r5h0.ext ((e0.trans e1).trans h3)) (r5h1.ext ((e0.trans e1).trans h3)) (by omega) (by omega)).mono ?_
  rintro e w4 ⟨rfl, h4⟩
  rcases Int.lt_or_le (1048576 - (a0.size : Int) - (a5.size : Int)) 0 with z5 | z5
  · rw [show szL (1048576 - (a0.size : Int)) a5.size = -1 from if_pos z5]
    go_wp2_with fail
    go_ret
    exact ⟨rfl, (((e0.trans e1).trans h3).trans h4)⟩
  rw [show szL (1048576 - (a0.size : Int)) a5.size = 1048576 - (a0.size : Int) - (a5.size : Int) from if_neg (by omega)]
  have y0 : a0.size ≤ 1048576 := by omega
  have y5 : a5.size ≤ 1048576 := by omega
  have ym0 := Topo.cnt_le y0
  obtain ⟨ym0a, ym0b⟩ := ym0
  have ym5 := Pkt.cnt_le y5
  obtain ⟨ym5a, ym5b⟩ := ym5
  have yr0 : 0 ≤ (forward a0 a1 a2 a3 a4 a5).cnt ∧ (forward a0 a1 a2 a3 a4 a5).cnt ≤ 5242880 := by
    rw [forward_cnt]; exact ⟨ym5a, ym5b⟩
  obtain ⟨yr0a, yr0b⟩ := yr0
  have hc5 := blk2 (Ext.block ((e1.trans h3).trans h4) HB0.out)
  have hc6 := blk10 (Ext.block (h3.trans h4) HB1.out)
  go_upto_region 8 with (fail)
  go_cut [14] (fun vb wx => ∃ g spu0 spu1, vb = .pointer (some ⟨g, 0, none⟩) ∧ wx.heap[g]? = some (.cells #[.int .i64 (forward a0 a1 a2 a3 a4 a5).code, .int .i64 (forward a0 a1 a2 a3 a4 a5).eg, .int .i64 (forward a0 a1 a2 a3 a4 a5).pkt.kind, .int .i64 (forward a0 a1 a2 a3 a4 a5).pkt.src, .int .i64 (forward a0 a1 a2 a3 a4 a5).pkt.dst, spu0, .int .i64 (forward a0 a1 a2 a3 a4 a5).pkt.pi, .int .i64 (forward a0 a1 a2 a3 a4 a5).pkt.hi, .int .i64 (forward a0 a1 a2 a3 a4 a5).pkt.beta, .int .i64 (forward a0 a1 a2 a3 a4 a5).pkt.rid, .int .i64 (forward a0 a1 a2 a3 a4 a5).pkt.seq, spu1] 66) ∧ w4.heap.size ≤ g ∧ Vd.own (rng w4.heap.size wx.heap.size) wx spu0 spu1 (forward a0 a1 a2 a3 a4 a5) ∧ Ext w4 wx)
  case first =>
    refine planStep (.blk [0, 2, 3, 4, 5, 6] (.two 1 9 (.two 7 9 (.two 8 9 (.one 9 (.one 10 .done)) (.one 8 (.one 10 .done))) (.one 7 (.one 8 (.one 10 .done)))) (.one 1 (.one 7 (.one 8 (.one 10 .done)))))) [10] (by kernel_rfl) (by kernel_rfl) ?_
    refine blkStep (fun K HK => ?_)
    simp only [pick, List.filterMap_cons, List.filterMap_nil, List.getElem?_toArray, List.getElem?_cons_zero, List.getElem?_cons_succ]
    go_wp2_with fail
    refine HK.out _ _ ?_
    clear HK K
    refine twoStep ?_ ?_
    · refine oneStep (fun K HK => ?_)
      simp only [pick, List.filterMap_cons, List.filterMap_nil, List.getElem?_toArray, List.getElem?_cons_zero, List.getElem?_cons_succ]
      go_wp2_with fail
      refine (l_toTopologyO a0 v0h0 v0h1 _ (r0h0.ext ((((e0.trans e1).trans h3).trans h4).trans (Ext.refl _).drew)) (r0h1.ext ((((e0.trans e1).trans h3).trans h4).trans (Ext.refl _).drew)) y0).mono ?_
      rintro e spw0 ⟨sp0v0, sp0v1, rfl, sp0o, sph0⟩
      have hc7 := blk2 (Ext.block (((e1.trans h3).trans h4).trans ((Ext.refl _).drew.trans sph0)) HB0.out)
      have hc8 := blk10 (Ext.block ((h3.trans h4).trans ((Ext.refl _).drew.trans sph0)) HB1.out)
      go_wp2_with fail
      refine HK.out _ _ sph0 ?_
      clear HK K
      refine twoStep ?_ ?_
      · refine oneStep (fun K HK => ?_)
        simp only [pick, List.filterMap_cons, List.filterMap_nil, List.getElem?_toArray, List.getElem?_cons_zero, List.getElem?_cons_succ]
        go_wp2_with fail
        refine (l_toPacket a5 v5h0 v5h1 _ (r5h0.ext ((((e0.trans e1).trans h3).trans h4).trans ((Ext.refl _).drew.trans sph0))) (r5h1.ext ((((e0.trans e1).trans h3).trans h4).trans ((Ext.refl _).drew.trans sph0))) y5).mono ?_
        rintro e spw1 ⟨sp5v0, sp5v1, rfl, sp5o, sph1⟩
        have hc9 := blk2 (Ext.block (((e1.trans h3).trans h4).trans (((Ext.refl _).drew.trans sph0).trans sph1)) HB0.out)
        have hc10 := blk10 (Ext.block ((h3.trans h4).trans (((Ext.refl _).drew.trans sph0).trans sph1)) HB1.out)
        go_wp2_with fail
        refine HK.out _ _ sph1 ?_
        clear HK K
        refine twoStep ?_ ?_
        · refine oneStep (fun K HK => ?_)
          simp only [pick, List.filterMap_cons, List.filterMap_nil, List.getElem?_toArray, List.getElem?_cons_zero, List.getElem?_cons_succ]
          go_wp2_with fail
          refine (s_Forward a0 sp0v0 sp0v1 a1 a2 a3 a4 a5 sp5v0 sp5v1 _ (Topo.own_rd0 (Topo.own_ext sp0o sph1)) (Topo.own_rd1 (Topo.own_ext sp0o sph1)) (Pkt.own_rd0 (Pkt.own_ext sp5o (Ext.refl _))) (Pkt.own_rd1 (Pkt.own_ext sp5o (Ext.refl _))) y5).mono ?_
          rintro e spw2 ⟨spu0, spu1, rfl, spoo, sph2⟩
          obtain ⟨spp0, spc0, rfl, spl0⟩ := (Vd.own_rd0 spoo).shape; clear spl0
          obtain ⟨spp1, spc1, rfl, spl1⟩ := (Vd.own_rd1 spoo).shape; clear spl1
          have hc11 := blk2 (Ext.block (((e1.trans h3).trans h4).trans ((((Ext.refl _).drew.trans sph0).trans sph1).trans sph2)) HB0.out)
          have hc12 := blk10 (Ext.block ((h3.trans h4).trans ((((Ext.refl _).drew.trans sph0).trans sph1).trans sph2)) HB1.out)
          go_wp2_with fail
          refine HK.out _ _ sph2 ?_
          clear HK K
          refine oneStep (fun K HK => ?_)
          simp only [pick, List.filterMap_cons, List.filterMap_nil, List.getElem?_toArray, List.getElem?_cons_zero, List.getElem?_cons_succ]
          go_wp2_with fail
          refine HK.out _ _ ((Ext.refl _).alloc _) ?_
          clear HK K
          refine badStep (by kernel_rfl) (fun K HK => ?_)
          simp only [pick, List.filterMap_cons, List.filterMap_nil, List.getElem?_toArray, List.getElem?_cons_zero, List.getElem?_cons_succ]
          go_wp2_with fail
          refine HK.out _ _ ?_
          clear HK K
          refine doneStep (by kernel_rfl) ?_
          go_wp2_with fail
          go_meet
          exact ⟨_, _, _, rfl, blk_new _ _, ((((Ext.refl _).drew.trans sph0).trans sph1).trans sph2).size, Vd.own_mono (Vd.own_ext spoo ((Ext.refl _).alloc _)) (fun b hb => ⟨by have h1 := hb.1; exact Nat.le_trans (((Ext.refl _).drew.trans sph0).trans sph1).size h1, Nat.lt_of_lt_of_le hb.2 ((Ext.refl _).alloc _).size⟩), ((((Ext.refl _).drew.trans sph0).trans sph1).trans sph2).alloc _⟩
        · have sphba := blk_new spw1 (.cells #[.int .i64 0, .int .i64 0, .int .i64 0, .int .i64 0, .int .i64 0, .slice none 0 0, .int .i64 0, .int .i64 0, .int .i64 0, .int .i64 0, .int .i64 0, .slice none 0 0] 66)
          have spHBA := Lib.hid sphba; clear sphba
          refine oneStep (fun K HK => ?_)
          simp only [pick, List.filterMap_cons, List.filterMap_nil, List.getElem?_toArray, List.getElem?_cons_zero, List.getElem?_cons_succ]
          go_wp2_with fail
          refine HK.out _ _ ((Ext.refl _).alloc _) ?_
          clear HK K
          refine oneStep (fun K HK => ?_)
          simp only [pick, List.filterMap_cons, List.filterMap_nil, List.getElem?_toArray, List.getElem?_cons_zero, List.getElem?_cons_succ]
          go_wp2_with fail
          refine (s_Forward a0 sp0v0 sp0v1 a1 a2 a3 a4 a5 sp5v0 sp5v1 _ (Topo.own_rd0 (Topo.own_ext sp0o (sph1.trans ((Ext.refl _).alloc _)))) (Topo.own_rd1 (Topo.own_ext sp0o (sph1.trans ((Ext.refl _).alloc _)))) (Pkt.own_rd0 (Pkt.own_ext sp5o ((Ext.refl _).alloc _))) (Pkt.own_rd1 (Pkt.own_ext sp5o ((Ext.refl _).alloc _))) y5).mono ?_
          rintro e spw2 ⟨spu0, spu1, rfl, spoo, sph2⟩
          obtain ⟨spp0, spc0, rfl, spl0⟩ := (Vd.own_rd0 spoo).shape; clear spl0
          obtain ⟨spp1, spc1, rfl, spl1⟩ := (Vd.own_rd1 spoo).shape; clear spl1
          have hc13 := blk2 (Ext.block (((e1.trans h3).trans h4).trans (((((Ext.refl _).drew.trans sph0).trans sph1).trans ((Ext.refl _).alloc _)).trans sph2)) HB0.out)
          have hc14 := blk10 (Ext.block ((h3.trans h4).trans (((((Ext.refl _).drew.trans sph0).trans sph1).trans ((Ext.refl _).alloc _)).trans sph2)) HB1.out)
          go_wp2_with fail
          refine HK.out _ _ sph2 ?_
          clear HK K
          have sphbs := Ext.block sph2 spHBA.out
          have spcs := blk12 sphbs
          have spf0 := fr_of sphbs 0
          have spf1 := fr_of sphbs 1
          have spf2 := fr_of sphbs 2
          have spf3 := fr_of sphbs 3
          have spf4 := fr_of sphbs 4
          have spf5 := fr_of sphbs 5
          have spf6 := fr_of sphbs 6
          have spf7 := fr_of sphbs 7
          have spf8 := fr_of sphbs 8
          have spf9 := fr_of sphbs 9
          have spf10 := fr_of sphbs 10
          have spf11 := fr_of sphbs 11
          have spHBS := Lib.hid sphbs; clear sphbs
          refine badStep (by kernel_rfl) (fun K HK => ?_)
          simp only [pick, List.filterMap_cons, List.filterMap_nil, List.getElem?_toArray, List.getElem?_cons_zero, List.getElem?_cons_succ]
          go_wp2_with fail
          refine HK.out _ _ ?_
          clear HK K
          refine doneStep (by kernel_rfl) ?_
          go_wp2_with fail
          go_meet
          obtain ⟨wq, hwq, hbq, hcq, hsq⟩ := vd_set spHBS.out (.int .i64 (forward a0 a1 a2 a3 a4 a5).code) (.int .i64 (forward a0 a1 a2 a3 a4 a5).eg) (.int .i64 (forward a0 a1 a2 a3 a4 a5).pkt.kind) (.int .i64 (forward a0 a1 a2 a3 a4 a5).pkt.src) (.int .i64 (forward a0 a1 a2 a3 a4 a5).pkt.dst) ((.slice spp0 ((forward a0 a1 a2 a3 a4 a5).pkt.path.parts).length spc0)) (.int .i64 (forward a0 a1 a2 a3 a4 a5).pkt.pi) (.int .i64 (forward a0 a1 a2 a3 a4 a5).pkt.hi) (.int .i64 (forward a0 a1 a2 a3 a4 a5).pkt.beta) (.int .i64 (forward a0 a1 a2 a3 a4 a5).pkt.rid) (.int .i64 (forward a0 a1 a2 a3 a4 a5).pkt.seq) ((.slice spp1 ((forward a0 a1 a2 a3 a4 a5).pkt.pay).length spc1))
          rw [← hwq]
          exact ⟨_, _, _, rfl, hbq, (((Ext.refl _).drew.trans sph0).trans sph1).size, Vd.own_mono (Vd.own_kept (Vd.own_ext spoo (Ext.refl _)) hcq (fun b hb e => absurd hb.1 (by rw [e]; exact Nat.not_le.2 (Nat.lt_of_lt_of_le (blk_lt spHBA.out) (Ext.refl _).size)))) (fun b hb => ⟨Nat.le_trans ((((Ext.refl _).drew.trans sph0).trans sph1).trans ((Ext.refl _).alloc _)).size hb.1, by rw [hsq]; exact Nat.lt_of_lt_of_le hb.2 (Ext.refl _).size⟩), (((((Ext.refl _).drew.trans sph0).trans sph1).trans ((Ext.refl _).alloc _)).trans sph2).chg1 hcq (((Ext.refl _).drew.trans sph0).trans sph1).size⟩
      · have sphba := blk_new spw0 (.cells #[.int .i64 0, .int .i64 0, .int .i64 0, .int .i64 0, .int .i64 0, .slice none 0 0, .int .i64 0, .int .i64 0, .int .i64 0, .int .i64 0, .int .i64 0, .slice none 0 0] 66)
        have spHBA := Lib.hid sphba; clear sphba
        refine oneStep (fun K HK => ?_)
        simp only [pick, List.filterMap_cons, List.filterMap_nil, List.getElem?_toArray, List.getElem?_cons_zero, List.getElem?_cons_succ]
        go_wp2_with fail
        refine HK.out _ _ ((Ext.refl _).alloc _) ?_
        clear HK K
        refine oneStep (fun K HK => ?_)
        simp only [pick, List.filterMap_cons, List.filterMap_nil, List.getElem?_toArray, List.getElem?_cons_zero, List.getElem?_cons_succ]
        go_wp2_with fail
        refine (l_toPacket a5 v5h0 v5h1 _ (r5h0.ext ((((e0.trans e1).trans h3).trans h4).trans (((Ext.refl _).drew.trans sph0).trans ((Ext.refl _).alloc _)))) (r5h1.ext ((((e0.trans e1).trans h3).trans h4).trans (((Ext.refl _).drew.trans sph0).trans ((Ext.refl _).alloc _)))) y5).mono ?_
        rintro e spw1 ⟨sp5v0, sp5v1, rfl, sp5o, sph1⟩
        have hc15 := blk2 (Ext.block (((e1.trans h3).trans h4).trans ((((Ext.refl _).drew.trans sph0).trans ((Ext.refl _).alloc _)).trans sph1)) HB0.out)
        have hc16 := blk10 (Ext.block ((h3.trans h4).trans ((((Ext.refl _).drew.trans sph0).trans ((Ext.refl _).alloc _)).trans sph1)) HB1.out)
        go_wp2_with fail
        refine HK.out _ _ sph1 ?_
        clear HK K
        refine oneStep (fun K HK => ?_)
        simp only [pick, List.filterMap_cons, List.filterMap_nil, List.getElem?_toArray, List.getElem?_cons_zero, List.getElem?_cons_succ]
        go_wp2_with fail
        refine (s_Forward a0 sp0v0 sp0v1 a1 a2 a3 a4 a5 sp5v0 sp5v1 _ (Topo.own_rd0 (Topo.own_ext sp0o (((Ext.refl _).alloc _).trans sph1))) (Topo.own_rd1 (Topo.own_ext sp0o (((Ext.refl _).alloc _).trans sph1))) (Pkt.own_rd0 (Pkt.own_ext sp5o (Ext.refl _))) (Pkt.own_rd1 (Pkt.own_ext sp5o (Ext.refl _))) y5).mono ?_
        rintro e spw2 ⟨spu0, spu1, rfl, spoo, sph2⟩
        obtain ⟨spp0, spc0, rfl, spl0⟩ := (Vd.own_rd0 spoo).shape; clear spl0
        obtain ⟨spp1, spc1, rfl, spl1⟩ := (Vd.own_rd1 spoo).shape; clear spl1
        have hc17 := blk2 (Ext.block (((e1.trans h3).trans h4).trans (((((Ext.refl _).drew.trans sph0).trans ((Ext.refl _).alloc _)).trans sph1).trans sph2)) HB0.out)
        have hc18 := blk10 (Ext.block ((h3.trans h4).trans (((((Ext.refl _).drew.trans sph0).trans ((Ext.refl _).alloc _)).trans sph1).trans sph2)) HB1.out)
        go_wp2_with fail
        refine HK.out _ _ sph2 ?_
        clear HK K
        have sphbs := Ext.block (sph1.trans sph2) spHBA.out
        have spcs := blk12 sphbs
        have spf0 := fr_of sphbs 0
        have spf1 := fr_of sphbs 1
        have spf2 := fr_of sphbs 2
        have spf3 := fr_of sphbs 3
        have spf4 := fr_of sphbs 4
        have spf5 := fr_of sphbs 5
        have spf6 := fr_of sphbs 6
        have spf7 := fr_of sphbs 7
        have spf8 := fr_of sphbs 8
        have spf9 := fr_of sphbs 9
        have spf10 := fr_of sphbs 10
        have spf11 := fr_of sphbs 11
        have spHBS := Lib.hid sphbs; clear sphbs
        refine badStep (by kernel_rfl) (fun K HK => ?_)
        simp only [pick, List.filterMap_cons, List.filterMap_nil, List.getElem?_toArray, List.getElem?_cons_zero, List.getElem?_cons_succ]
        go_wp2_with fail
        refine HK.out _ _ ?_
        clear HK K
        refine doneStep (by kernel_rfl) ?_
        go_wp2_with fail
        go_meet
        obtain ⟨wq, hwq, hbq, hcq, hsq⟩ := vd_set spHBS.out (.int .i64 (forward a0 a1 a2 a3 a4 a5).code) (.int .i64 (forward a0 a1 a2 a3 a4 a5).eg) (.int .i64 (forward a0 a1 a2 a3 a4 a5).pkt.kind) (.int .i64 (forward a0 a1 a2 a3 a4 a5).pkt.src) (.int .i64 (forward a0 a1 a2 a3 a4 a5).pkt.dst) ((.slice spp0 ((forward a0 a1 a2 a3 a4 a5).pkt.path.parts).length spc0)) (.int .i64 (forward a0 a1 a2 a3 a4 a5).pkt.pi) (.int .i64 (forward a0 a1 a2 a3 a4 a5).pkt.hi) (.int .i64 (forward a0 a1 a2 a3 a4 a5).pkt.beta) (.int .i64 (forward a0 a1 a2 a3 a4 a5).pkt.rid) (.int .i64 (forward a0 a1 a2 a3 a4 a5).pkt.seq) ((.slice spp1 ((forward a0 a1 a2 a3 a4 a5).pkt.pay).length spc1))
        rw [← hwq]
        exact ⟨_, _, _, rfl, hbq, ((Ext.refl _).drew.trans sph0).size, Vd.own_mono (Vd.own_kept (Vd.own_ext spoo (Ext.refl _)) hcq (fun b hb e => absurd hb.1 (by rw [e]; exact Nat.not_le.2 (Nat.lt_of_lt_of_le (blk_lt spHBA.out) sph1.size)))) (fun b hb => ⟨Nat.le_trans ((((Ext.refl _).drew.trans sph0).trans ((Ext.refl _).alloc _)).trans sph1).size hb.1, by rw [hsq]; exact Nat.lt_of_lt_of_le hb.2 (Ext.refl _).size⟩), (((((Ext.refl _).drew.trans sph0).trans ((Ext.refl _).alloc _)).trans sph1).trans sph2).chg1 hcq ((Ext.refl _).drew.trans sph0).size⟩
    · have sphba := blk_new w4 (.cells #[.int .i64 0, .int .i64 0, .int .i64 0, .int .i64 0, .int .i64 0, .slice none 0 0, .int .i64 0, .int .i64 0, .int .i64 0, .int .i64 0, .int .i64 0, .slice none 0 0] 66)
      have spHBA := Lib.hid sphba; clear sphba
      refine oneStep (fun K HK => ?_)
      simp only [pick, List.filterMap_cons, List.filterMap_nil, List.getElem?_toArray, List.getElem?_cons_zero, List.getElem?_cons_succ]
      go_wp2_with fail
      refine HK.out _ _ ((Ext.refl _).alloc _) ?_
      clear HK K
      refine oneStep (fun K HK => ?_)
      simp only [pick, List.filterMap_cons, List.filterMap_nil, List.getElem?_toArray, List.getElem?_cons_zero, List.getElem?_cons_succ]
      go_wp2_with fail
      refine (l_toTopologyO a0 v0h0 v0h1 _ (r0h0.ext ((((e0.trans e1).trans h3).trans h4).trans ((Ext.refl _).drew.trans ((Ext.refl _).alloc _)))) (r0h1.ext ((((e0.trans e1).trans h3).trans h4).trans ((Ext.refl _).drew.trans ((Ext.refl _).alloc _)))) y0).mono ?_
      rintro e spw0 ⟨sp0v0, sp0v1, rfl, sp0o, sph0⟩
      have hc19 := blk2 (Ext.block (((e1.trans h3).trans h4).trans (((Ext.refl _).drew.trans ((Ext.refl _).alloc _)).trans sph0)) HB0.out)
      have hc20 := blk10 (Ext.block ((h3.trans h4).trans (((Ext.refl _).drew.trans ((Ext.refl _).alloc _)).trans sph0)) HB1.out)
      go_wp2_with fail
      refine HK.out _ _ sph0 ?_
      clear HK K
      refine oneStep (fun K HK => ?_)
      simp only [pick, List.filterMap_cons, List.filterMap_nil, List.getElem?_toArray, List.getElem?_cons_zero, List.getElem?_cons_succ]
      go_wp2_with fail
      refine (l_toPacket a5 v5h0 v5h1 _ (r5h0.ext ((((e0.trans e1).trans h3).trans h4).trans (((Ext.refl _).drew.trans ((Ext.refl _).alloc _)).trans sph0))) (r5h1.ext ((((e0.trans e1).trans h3).trans h4).trans (((Ext.refl _).drew.trans ((Ext.refl _).alloc _)).trans sph0))) y5).mono ?_
      rintro e spw1 ⟨sp5v0, sp5v1, rfl, sp5o, sph1⟩
      have hc21 := blk2 (Ext.block (((e1.trans h3).trans h4).trans ((((Ext.refl _).drew.trans ((Ext.refl _).alloc _)).trans sph0).trans sph1)) HB0.out)
      have hc22 := blk10 (Ext.block ((h3.trans h4).trans ((((Ext.refl _).drew.trans ((Ext.refl _).alloc _)).trans sph0).trans sph1)) HB1.out)
      go_wp2_with fail
      refine HK.out _ _ sph1 ?_
      clear HK K
      refine oneStep (fun K HK => ?_)
      simp only [pick, List.filterMap_cons, List.filterMap_nil, List.getElem?_toArray, List.getElem?_cons_zero, List.getElem?_cons_succ]
      go_wp2_with fail
      refine (s_Forward a0 sp0v0 sp0v1 a1 a2 a3 a4 a5 sp5v0 sp5v1 _ (Topo.own_rd0 (Topo.own_ext sp0o sph1)) (Topo.own_rd1 (Topo.own_ext sp0o sph1)) (Pkt.own_rd0 (Pkt.own_ext sp5o (Ext.refl _))) (Pkt.own_rd1 (Pkt.own_ext sp5o (Ext.refl _))) y5).mono ?_
      rintro e spw2 ⟨spu0, spu1, rfl, spoo, sph2⟩
      obtain ⟨spp0, spc0, rfl, spl0⟩ := (Vd.own_rd0 spoo).shape; clear spl0
      obtain ⟨spp1, spc1, rfl, spl1⟩ := (Vd.own_rd1 spoo).shape; clear spl1
      have hc23 := blk2 (Ext.block (((e1.trans h3).trans h4).trans (((((Ext.refl _).drew.trans ((Ext.refl _).alloc _)).trans sph0).trans sph1).trans sph2)) HB0.out)
      have hc24 := blk10 (Ext.block ((h3.trans h4).trans (((((Ext.refl _).drew.trans ((Ext.refl _).alloc _)).trans sph0).trans sph1).trans sph2)) HB1.out)
      go_wp2_with fail
      refine HK.out _ _ sph2 ?_
      clear HK K
      have sphbs := Ext.block ((sph0.trans sph1).trans sph2) spHBA.out
      have spcs := blk12 sphbs
      have spf0 := fr_of sphbs 0
      have spf1 := fr_of sphbs 1
      have spf2 := fr_of sphbs 2
      have spf3 := fr_of sphbs 3
      have spf4 := fr_of sphbs 4
      have spf5 := fr_of sphbs 5
      have spf6 := fr_of sphbs 6
      have spf7 := fr_of sphbs 7
      have spf8 := fr_of sphbs 8
      have spf9 := fr_of sphbs 9
      have spf10 := fr_of sphbs 10
      have spf11 := fr_of sphbs 11
      have spHBS := Lib.hid sphbs; clear sphbs
      refine badStep (by kernel_rfl) (fun K HK => ?_)
      simp only [pick, List.filterMap_cons, List.filterMap_nil, List.getElem?_toArray, List.getElem?_cons_zero, List.getElem?_cons_succ]
      go_wp2_with fail
      refine HK.out _ _ ?_
      clear HK K
      refine doneStep (by kernel_rfl) ?_
      go_wp2_with fail
      go_meet
      obtain ⟨wq, hwq, hbq, hcq, hsq⟩ := vd_set spHBS.out (.int .i64 (forward a0 a1 a2 a3 a4 a5).code) (.int .i64 (forward a0 a1 a2 a3 a4 a5).eg) (.int .i64 (forward a0 a1 a2 a3 a4 a5).pkt.kind) (.int .i64 (forward a0 a1 a2 a3 a4 a5).pkt.src) (.int .i64 (forward a0 a1 a2 a3 a4 a5).pkt.dst) ((.slice spp0 ((forward a0 a1 a2 a3 a4 a5).pkt.path.parts).length spc0)) (.int .i64 (forward a0 a1 a2 a3 a4 a5).pkt.pi) (.int .i64 (forward a0 a1 a2 a3 a4 a5).pkt.hi) (.int .i64 (forward a0 a1 a2 a3 a4 a5).pkt.beta) (.int .i64 (forward a0 a1 a2 a3 a4 a5).pkt.rid) (.int .i64 (forward a0 a1 a2 a3 a4 a5).pkt.seq) ((.slice spp1 ((forward a0 a1 a2 a3 a4 a5).pkt.pay).length spc1))
      rw [← hwq]
      exact ⟨_, _, _, rfl, hbq, (Ext.refl _).drew.size, Vd.own_mono (Vd.own_kept (Vd.own_ext spoo (Ext.refl _)) hcq (fun b hb e => absurd hb.1 (by rw [e]; exact Nat.not_le.2 (Nat.lt_of_lt_of_le (blk_lt spHBA.out) (sph0.trans sph1).size)))) (fun b hb => ⟨Nat.le_trans ((((Ext.refl _).drew.trans ((Ext.refl _).alloc _)).trans sph0).trans sph1).size hb.1, by rw [hsq]; exact Nat.lt_of_lt_of_le hb.2 (Ext.refl _).size⟩), (((((Ext.refl _).drew.trans ((Ext.refl _).alloc _)).trans sph0).trans sph1).trans sph2).chg1 hcq (Ext.refl _).drew.size⟩
  case rest =>
    obtain ⟨spg, spu0, spu1, rfl, sphb, sphg, spoo, sphx⟩ := hcut
    obtain ⟨w5, hwn⟩ : ∃ wA : World, wA = wc := ⟨_, rfl⟩
    subst hwn
    have spHB := Lib.hid sphb; clear sphb
    obtain ⟨spp0, spc0, rfl, spl0⟩ := (Vd.own_rd0 spoo).shape; clear spl0
    obtain ⟨spp1, spc1, rfl, spl1⟩ := (Vd.own_rd1 spoo).shape; clear spl1
    have hc25 := blk2 (Ext.block (((e1.trans h3).trans h4).trans sphx) HB0.out)
    have hc26 := blk10 (Ext.block ((h3.trans h4).trans sphx) HB1.out)
    have hc27 := blk12 spHB.out
    go_wp2_with fail
    refine (l_toTopologyO a0 v0h0 v0h1 _ (r0h0.ext ((((e0.trans e1).trans h3).trans h4).trans sphx)) (r0h1.ext ((((e0.trans e1).trans h3).trans h4).trans sphx)) y0).mono ?_
    rintro e w6 ⟨x0u0, x0u1, rfl, x0o0, h6⟩
    obtain ⟨x0sp0, x0sc0, rfl, x0sl0⟩ := (Topo.own_rd0 x0o0).shape; clear x0sl0
    obtain ⟨x0sp1, x0sc1, rfl, x0sl1⟩ := (Topo.own_rd1 x0o0).shape; clear x0sl1
    have e6 : Ext w6 (w6.alloc (.cells #[(.slice x0sp0 (a0.ases).length x0sc0), (.slice x0sp1 (a0.links).length x0sc1)] 47)) := (Ext.refl _).alloc _
    have hB6 := blk_new w6 (.cells #[(.slice x0sp0 (a0.ases).length x0sc0), (.slice x0sp1 (a0.links).length x0sc1)] 47)
    have HB6 := Lib.hid hB6; clear hB6
    have hc28 := blk2 (Ext.block (((((e1.trans h3).trans h4).trans sphx).trans h6).trans e6) HB0.out)
    have hc29 := blk10 (Ext.block ((((h3.trans h4).trans sphx).trans h6).trans e6) HB1.out)
    have hc30 := blk12 (Ext.block (h6.trans e6) spHB.out)
    go_wp2_with fail
    refine (l_toPacket a5 v5h0 v5h1 _ (r5h0.ext ((((((e0.trans e1).trans h3).trans h4).trans sphx).trans h6).trans e6)) (r5h1.ext ((((((e0.trans e1).trans h3).trans h4).trans sphx).trans h6).trans e6)) y5).mono ?_
    rintro e w8 ⟨x5u0, x5u1, rfl, x5o0, h8⟩
    obtain ⟨x5sp0, x5sc0, rfl, x5sl0⟩ := (Pkt.own_rd0 x5o0).shape; clear x5sl0
    obtain ⟨x5sp1, x5sc1, rfl, x5sl1⟩ := (Pkt.own_rd1 x5o0).shape; clear x5sl1
    have e8 : Ext w8 (w8.alloc (.cells #[.int .i64 a5.kind, .int .i64 a5.src, .int .i64 a5.dst, (.slice x5sp0 (a5.path.parts).length x5sc0), .int .i64 a5.pi, .int .i64 a5.hi, .int .i64 a5.beta, .int .i64 a5.rid, .int .i64 a5.seq, (.slice x5sp1 (a5.pay).length x5sc1)] 40)) := (Ext.refl _).alloc _
    have hB8 := blk_new w8 (.cells #[.int .i64 a5.kind, .int .i64 a5.src, .int .i64 a5.dst, (.slice x5sp0 (a5.path.parts).length x5sc0), .int .i64 a5.pi, .int .i64 a5.hi, .int .i64 a5.beta, .int .i64 a5.rid, .int .i64 a5.seq, (.slice x5sp1 (a5.pay).length x5sc1)] 40)
    have HB8 := Lib.hid hB8; clear hB8
    have hc32 := blk2 (Ext.block (((((((e1.trans h3).trans h4).trans sphx).trans h6).trans e6).trans h8).trans e8) HB0.out)
    have hc33 := blk10 (Ext.block ((((((h3.trans h4).trans sphx).trans h6).trans e6).trans h8).trans e8) HB1.out)
    have hc34 := blk12 (Ext.block (((h6.trans e6).trans h8).trans e8) spHB.out)
    have hc35 := blk2 (Ext.block (h8.trans e8) HB6.out)
    go_wp2_with fail
    refine (i_Forward a0 (.slice x0sp0 (a0.ases).length x0sc0) (.slice x0sp1 (a0.links).length x0sc1) a1 a2 a3 a4 a5 (.slice x5sp0 (a5.path.parts).length x5sc0) (.slice x5sp1 (a5.pay).length x5sc1) _ ((Topo.own_rd0 x0o0).ext ((e6.trans h8).trans e8)) ((Topo.own_rd1 x0o0).ext ((e6.trans h8).trans e8)) ((Pkt.own_rd0 x5o0).ext e8) ((Pkt.own_rd1 x5o0).ext e8) y5).mono ?_
    rintro e w10 ⟨gpu0, gpu1, rfl, gpo0, h10⟩
    obtain ⟨gpp0, gpc0, rfl, gpl0⟩ := (Vd.own_rd0 gpo0).shape; clear gpl0
    obtain ⟨gpp1, gpc1, rfl, gpl1⟩ := (Vd.own_rd1 gpo0).shape; clear gpl1
    have e10 : Ext w10 (w10.alloc (.cells #[.int .i64 (forward a0 a1 a2 a3 a4 a5).code, .int .i64 (forward a0 a1 a2 a3 a4 a5).eg, .int .i64 (forward a0 a1 a2 a3 a4 a5).pkt.kind, .int .i64 (forward a0 a1 a2 a3 a4 a5).pkt.src, .int .i64 (forward a0 a1 a2 a3 a4 a5).pkt.dst, (.slice gpp0 ((forward a0 a1 a2 a3 a4 a5).pkt.path.parts).length gpc0), .int .i64 (forward a0 a1 a2 a3 a4 a5).pkt.pi, .int .i64 (forward a0 a1 a2 a3 a4 a5).pkt.hi, .int .i64 (forward a0 a1 a2 a3 a4 a5).pkt.beta, .int .i64 (forward a0 a1 a2 a3 a4 a5).pkt.rid, .int .i64 (forward a0 a1 a2 a3 a4 a5).pkt.seq, (.slice gpp1 ((forward a0 a1 a2 a3 a4 a5).pkt.pay).length gpc1)] 66)) := (Ext.refl _).alloc _
    have hB10 := blk_new w10 (.cells #[.int .i64 (forward a0 a1 a2 a3 a4 a5).code, .int .i64 (forward a0 a1 a2 a3 a4 a5).eg, .int .i64 (forward a0 a1 a2 a3 a4 a5).pkt.kind, .int .i64 (forward a0 a1 a2 a3 a4 a5).pkt.src, .int .i64 (forward a0 a1 a2 a3 a4 a5).pkt.dst, (.slice gpp0 ((forward a0 a1 a2 a3 a4 a5).pkt.path.parts).length gpc0), .int .i64 (forward a0 a1 a2 a3 a4 a5).pkt.pi, .int .i64 (forward a0 a1 a2 a3 a4 a5).pkt.hi, .int .i64 (forward a0 a1 a2 a3 a4 a5).pkt.beta, .int .i64 (forward a0 a1 a2 a3 a4 a5).pkt.rid, .int .i64 (forward a0 a1 a2 a3 a4 a5).pkt.seq, (.slice gpp1 ((forward a0 a1 a2 a3 a4 a5).pkt.pay).length gpc1)] 66)
    have HB10 := Lib.hid hB10; clear hB10
    have hc37 := blk2 (Ext.block (((((((((e1.trans h3).trans h4).trans sphx).trans h6).trans e6).trans h8).trans e8).trans h10).trans e10) HB0.out)
    have hc38 := blk10 (Ext.block ((((((((h3.trans h4).trans sphx).trans h6).trans e6).trans h8).trans e8).trans h10).trans e10) HB1.out)
    have hc39 := blk12 (Ext.block (((((h6.trans e6).trans h8).trans e8).trans h10).trans e10) spHB.out)
    have hc40 := blk2 (Ext.block (((h8.trans e8).trans h10).trans e10) HB6.out)
    have hc41 := blk10 (Ext.block (h10.trans e10) HB8.out)
    go_wp2_with fail
    refine (l_eqVerdict (forward a0 a1 a2 a3 a4 a5) (forward a0 a1 a2 a3 a4 a5) (.slice gpp0 ((forward a0 a1 a2 a3 a4 a5).pkt.path.parts).length gpc0) (.slice gpp1 ((forward a0 a1 a2 a3 a4 a5).pkt.pay).length gpc1) (.slice spp0 ((forward a0 a1 a2 a3 a4 a5).pkt.path.parts).length spc0) (.slice spp1 ((forward a0 a1 a2 a3 a4 a5).pkt.pay).length spc1) _ ((Vd.own_rd0 gpo0).ext e10) ((Vd.own_rd1 gpo0).ext e10) ((Vd.own_rd0 spoo).ext (((((h6.trans e6).trans h8).trans e8).trans h10).trans e10)) ((Vd.own_rd1 spoo).ext (((((h6.trans e6).trans h8).trans e8).trans h10).trans e10))).mono ?_
    rintro e w12 ⟨rfl, h12⟩
    rw [show decide ((forward a0 a1 a2 a3 a4 a5) = (forward a0 a1 a2 a3 a4 a5)) = true from decide_eq_true rfl]
    have hc43 := blk2 (Ext.block ((((((((((e1.trans h3).trans h4).trans sphx).trans h6).trans e6).trans h8).trans e8).trans h10).trans e10).trans h12) HB0.out)
    have hc44 := blk10 (Ext.block (((((((((h3.trans h4).trans sphx).trans h6).trans e6).trans h8).trans e8).trans h10).trans e10).trans h12) HB1.out)
    have hc45 := blk12 (Ext.block ((((((h6.trans e6).trans h8).trans e8).trans h10).trans e10).trans h12) spHB.out)
    have hc46 := blk2 (Ext.block ((((h8.trans e8).trans h10).trans e10).trans h12) HB6.out)
    have hc47 := blk10 (Ext.block ((h10.trans e10).trans h12) HB8.out)
    have hc48 := blk12 (Ext.block h12 HB10.out)
    go_wp2_with fail
    refine planStep (.blk [0, 1] (.one 2 (.one 3 (.blk [4] .done)))) [] (by kernel_rfl) (by kernel_rfl) ?_
    refine blkStep (fun K HK => ?_)
    simp only [pick, List.filterMap_cons, List.filterMap_nil, List.getElem?_toArray, List.getElem?_cons_zero, List.getElem?_cons_succ]
    go_wp2_with fail
    refine HK.out _ _ ?_
    clear HK K
    refine oneStep (fun K HK => ?_)
    simp only [pick, List.filterMap_cons, List.filterMap_nil, List.getElem?_toArray, List.getElem?_cons_zero, List.getElem?_cons_succ]
    go_wp2_with fail
    refine (l_toTopologyO a0 v0h0 v0h1 _ (r0h0.ext (((((((((((e0.trans e1).trans h3).trans h4).trans sphx).trans h6).trans e6).trans h8).trans e8).trans h10).trans e10).trans h12).drew) (r0h1.ext (((((((((((e0.trans e1).trans h3).trans h4).trans sphx).trans h6).trans e6).trans h8).trans e8).trans h10).trans e10).trans h12).drew) y0).mono ?_
    rintro e w13 ⟨t0u0, t0u1, rfl, t0o0, h13⟩
    go_wp2_with fail
    refine HK.out _ _ (h13) ?_
    clear HK K
    refine oneStep (fun K HK => ?_)
    simp only [pick, List.filterMap_cons, List.filterMap_nil, List.getElem?_toArray, List.getElem?_cons_zero, List.getElem?_cons_succ]
    go_wp2_with fail
    refine (l_eqTopology a0 a0 (.slice x0sp0 (a0.ases).length x0sc0) (.slice x0sp1 (a0.links).length x0sc1) t0u0 t0u1 _ ((Topo.own_rd0 x0o0).ext ((((((e6.trans h8).trans e8).trans h10).trans e10).trans h12).trans ((Ext.refl _).drew.trans h13))) ((Topo.own_rd1 x0o0).ext ((((((e6.trans h8).trans e8).trans h10).trans e10).trans h12).trans ((Ext.refl _).drew.trans h13))) (Topo.own_rd0 t0o0) (Topo.own_rd1 t0o0)).mono ?_
    rintro e w14 ⟨rfl, h14⟩
    rw [show decide (a0 = a0) = true from decide_eq_true rfl]
    go_wp2_with fail
    refine HK.out _ _ (h14) ?_
    clear HK K
    refine blkStep (fun K HK => ?_)
    simp only [pick, List.filterMap_cons, List.filterMap_nil, List.getElem?_toArray, List.getElem?_cons_zero, List.getElem?_cons_succ]
    go_wp2_with fail
    refine HK.out _ _ ?_
    clear HK K
    refine doneStep (by kernel_rfl) ?_
    have hc49 := blk2 (Ext.block ((((((((((((e1.trans h3).trans h4).trans sphx).trans h6).trans e6).trans h8).trans e8).trans h10).trans e10).trans h12).trans ((Ext.refl _).drew.trans h13)).trans h14) HB0.out)
    have hc50 := blk10 (Ext.block (((((((((((h3.trans h4).trans sphx).trans h6).trans e6).trans h8).trans e8).trans h10).trans e10).trans h12).trans ((Ext.refl _).drew.trans h13)).trans h14) HB1.out)
    have hc51 := blk12 (Ext.block ((((((((h6.trans e6).trans h8).trans e8).trans h10).trans e10).trans h12).trans ((Ext.refl _).drew.trans h13)).trans h14) spHB.out)
    have hc52 := blk2 (Ext.block ((((((h8.trans e8).trans h10).trans e10).trans h12).trans ((Ext.refl _).drew.trans h13)).trans h14) HB6.out)
    have hc53 := blk10 (Ext.block ((((h10.trans e10).trans h12).trans ((Ext.refl _).drew.trans h13)).trans h14) HB8.out)
    have hc54 := blk12 (Ext.block ((h12.trans ((Ext.refl _).drew.trans h13)).trans h14) HB10.out)
    go_wp2_with fail
    refine planStep (.blk [0, 1] (.one 2 (.one 3 (.blk [4] .done)))) [] (by kernel_rfl) (by kernel_rfl) ?_
    refine blkStep (fun K HK => ?_)
    simp only [pick, List.filterMap_cons, List.filterMap_nil, List.getElem?_toArray, List.getElem?_cons_zero, List.getElem?_cons_succ]
    go_wp2_with fail
    refine HK.out _ _ ?_
    clear HK K
    refine oneStep (fun K HK => ?_)
    simp only [pick, List.filterMap_cons, List.filterMap_nil, List.getElem?_toArray, List.getElem?_cons_zero, List.getElem?_cons_succ]
    go_wp2_with fail
    refine (l_toPacket a5 v5h0 v5h1 _ (r5h0.ext (((((((((((((e0.trans e1).trans h3).trans h4).trans sphx).trans h6).trans e6).trans h8).trans e8).trans h10).trans e10).trans h12).trans ((Ext.refl _).drew.trans h13)).trans h14).drew) (r5h1.ext (((((((((((((e0.trans e1).trans h3).trans h4).trans sphx).trans h6).trans e6).trans h8).trans e8).trans h10).trans e10).trans h12).trans ((Ext.refl _).drew.trans h13)).trans h14).drew) y5).mono ?_
    rintro e w15 ⟨t5u0, t5u1, rfl, t5o0, h15⟩
    go_wp2_with fail
    refine HK.out _ _ (h15) ?_
    clear HK K
    refine oneStep (fun K HK => ?_)
    simp only [pick, List.filterMap_cons, List.filterMap_nil, List.getElem?_toArray, List.getElem?_cons_zero, List.getElem?_cons_succ]
    go_wp2_with fail
    refine (l_eqPacket a5 a5 (.slice x5sp0 (a5.path.parts).length x5sc0) (.slice x5sp1 (a5.pay).length x5sc1) t5u0 t5u1 _ ((Pkt.own_rd0 x5o0).ext ((((((e8.trans h10).trans e10).trans h12).trans ((Ext.refl _).drew.trans h13)).trans h14).trans ((Ext.refl _).drew.trans h15))) ((Pkt.own_rd1 x5o0).ext ((((((e8.trans h10).trans e10).trans h12).trans ((Ext.refl _).drew.trans h13)).trans h14).trans ((Ext.refl _).drew.trans h15))) (Pkt.own_rd0 t5o0) (Pkt.own_rd1 t5o0)).mono ?_
    rintro e w16 ⟨rfl, h16⟩
    rw [show decide (a5 = a5) = true from decide_eq_true rfl]
    go_wp2_with fail
    refine HK.out _ _ (h16) ?_
    clear HK K
    refine blkStep (fun K HK => ?_)
    simp only [pick, List.filterMap_cons, List.filterMap_nil, List.getElem?_toArray, List.getElem?_cons_zero, List.getElem?_cons_succ]
    go_wp2_with fail
    refine HK.out _ _ ?_
    clear HK K
    refine doneStep (by kernel_rfl) ?_
    have hc55 := blk2 (Ext.block ((((((((((((((e1.trans h3).trans h4).trans sphx).trans h6).trans e6).trans h8).trans e8).trans h10).trans e10).trans h12).trans ((Ext.refl _).drew.trans h13)).trans h14).trans ((Ext.refl _).drew.trans h15)).trans h16) HB0.out)
    have hc56 := blk10 (Ext.block (((((((((((((h3.trans h4).trans sphx).trans h6).trans e6).trans h8).trans e8).trans h10).trans e10).trans h12).trans ((Ext.refl _).drew.trans h13)).trans h14).trans ((Ext.refl _).drew.trans h15)).trans h16) HB1.out)
    have hc57 := blk12 (Ext.block ((((((((((h6.trans e6).trans h8).trans e8).trans h10).trans e10).trans h12).trans ((Ext.refl _).drew.trans h13)).trans h14).trans ((Ext.refl _).drew.trans h15)).trans h16) spHB.out)
    have hc58 := blk2 (Ext.block ((((((((h8.trans e8).trans h10).trans e10).trans h12).trans ((Ext.refl _).drew.trans h13)).trans h14).trans ((Ext.refl _).drew.trans h15)).trans h16) HB6.out)
    have hc59 := blk10 (Ext.block ((((((h10.trans e10).trans h12).trans ((Ext.refl _).drew.trans h13)).trans h14).trans ((Ext.refl _).drew.trans h15)).trans h16) HB8.out)
    have hc60 := blk12 (Ext.block ((((h12.trans ((Ext.refl _).drew.trans h13)).trans h14).trans ((Ext.refl _).drew.trans h15)).trans h16) HB10.out)
    go_wp2_with fail
    refine (l_markTopology (a0) (.slice x0sp0 (a0.ases).length x0sc0) (.slice x0sp1 (a0.links).length x0sc1) (1) _ _ (Topo.own_ext x0o0 (((((((((e6.trans h8).trans e8).trans h10).trans e10).trans h12).trans ((Ext.refl _).drew.trans h13)).trans h14).trans ((Ext.refl _).drew.trans h15)).trans h16)) (by omega) (by omega)).mono ?_
    rintro e w17 ⟨rfl, mx0o, mx0c⟩
    have HB0m1 := Lib.hid (Chg.blk mx0c (Ext.block ((((((((((((((e1.trans h3).trans h4).trans sphx).trans h6).trans e6).trans h8).trans e8).trans h10).trans e10).trans h12).trans ((Ext.refl _).drew.trans h13)).trans h14).trans ((Ext.refl _).drew.trans h15)).trans h16) HB0.out) (.inl (Nat.lt_of_lt_of_le (blk_lt HB0.out) (((e1.trans h3).trans h4).trans sphx).size)))
    have HB1m1 := Lib.hid (Chg.blk mx0c (Ext.block (((((((((((((h3.trans h4).trans sphx).trans h6).trans e6).trans h8).trans e8).trans h10).trans e10).trans h12).trans ((Ext.refl _).drew.trans h13)).trans h14).trans ((Ext.refl _).drew.trans h15)).trans h16) HB1.out) (.inl (Nat.lt_of_lt_of_le (blk_lt HB1.out) ((h3.trans h4).trans sphx).size)))
    have spHBm1 := Lib.hid (Chg.blk mx0c (Ext.block ((((((((((h6.trans e6).trans h8).trans e8).trans h10).trans e10).trans h12).trans ((Ext.refl _).drew.trans h13)).trans h14).trans ((Ext.refl _).drew.trans h15)).trans h16) spHB.out) (.inl (Nat.lt_of_lt_of_le (blk_lt spHB.out) (Ext.refl _).size)))
    have HB6m1 := Lib.hid (Chg.blk mx0c (Ext.block ((((((((h8.trans e8).trans h10).trans e10).trans h12).trans ((Ext.refl _).drew.trans h13)).trans h14).trans ((Ext.refl _).drew.trans h15)).trans h16) HB6.out) (.inr (Ext.refl _).size))
    have HB8m1 := Lib.hid (Chg.blk mx0c (Ext.block ((((((h10.trans e10).trans h12).trans ((Ext.refl _).drew.trans h13)).trans h14).trans ((Ext.refl _).drew.trans h15)).trans h16) HB8.out) (.inr (e6.trans h8).size))
    have HB10m1 := Lib.hid (Chg.blk mx0c (Ext.block ((((h12.trans ((Ext.refl _).drew.trans h13)).trans h14).trans ((Ext.refl _).drew.trans h15)).trans h16) HB10.out) (.inr (((e6.trans h8).trans e8).trans h10).size))
    have spoo_m1 := Vd.own_kept (Vd.own_ext spoo ((((((((((h6.trans e6).trans h8).trans e8).trans h10).trans e10).trans h12).trans ((Ext.refl _).drew.trans h13)).trans h14).trans ((Ext.refl _).drew.trans h15)).trans h16)) mx0c (rng_apart (.inl (Ext.refl _).size))
    have x5o0_m1 := Pkt.own_kept (Pkt.own_ext x5o0 (((((((e8.trans h10).trans e10).trans h12).trans ((Ext.refl _).drew.trans h13)).trans h14).trans ((Ext.refl _).drew.trans h15)).trans h16)) mx0c (rng_apart (.inr e6.size))
    have gpo0_m1 := Vd.own_kept (Vd.own_ext gpo0 (((((e10.trans h12).trans ((Ext.refl _).drew.trans h13)).trans h14).trans ((Ext.refl _).drew.trans h15)).trans h16)) mx0c (rng_apart (.inr ((e6.trans h8).trans e8).size))
    have t0o0_m1 := Topo.own_kept (Topo.own_ext t0o0 ((h14.trans ((Ext.refl _).drew.trans h15)).trans h16)) mx0c (rng_apart (.inr (((((e6.trans h8).trans e8).trans h10).trans e10).trans h12).size))
    have t5o0_m1 := Pkt.own_kept (Pkt.own_ext t5o0 h16) mx0c (rng_apart (.inr (((((((e6.trans h8).trans e8).trans h10).trans e10).trans h12).trans ((Ext.refl _).drew.trans h13)).trans h14).size))
    have X1 := Ext.chg (((((((((((((((e0.trans e1).trans h3).trans h4).trans sphx).trans h6).trans e6).trans h8).trans e8).trans h10).trans e10).trans h12).trans ((Ext.refl _).drew.trans h13)).trans h14).trans ((Ext.refl _).drew.trans h15)).trans h16) mx0c (fun i hi => Nat.le_trans ((((e0.trans e1).trans h3).trans h4).trans sphx).size hi.1)
    have hc61 := blk2 HB0m1.out
    have hc62 := blk10 HB1m1.out
    have hc63 := blk12 spHBm1.out
    have hc64 := blk2 HB6m1.out
    have hc65 := blk10 HB8m1.out
    have hc66 := blk12 HB10m1.out
    go_wp2_with fail
    refine (l_markPacket (a5) (.slice x5sp0 (a5.path.parts).length x5sc0) (.slice x5sp1 (a5.pay).length x5sc1) (1 + (a0).cnt) _ _ x5o0_m1 (by omega) (by omega)).mono ?_
    rintro e w18 ⟨rfl, mx5o, mx5c⟩
    have HB0m2 := Lib.hid (Chg.blk mx5c HB0m1.out (.inl (Nat.lt_of_lt_of_le (blk_lt HB0.out) (((((e1.trans h3).trans h4).trans sphx).trans h6).trans e6).size)))
    have HB1m2 := Lib.hid (Chg.blk mx5c HB1m1.out (.inl (Nat.lt_of_lt_of_le (blk_lt HB1.out) ((((h3.trans h4).trans sphx).trans h6).trans e6).size)))
    have spHBm2 := Lib.hid (Chg.blk mx5c spHBm1.out (.inl (Nat.lt_of_lt_of_le (blk_lt spHB.out) (h6.trans e6).size)))
    have HB6m2 := Lib.hid (Chg.blk mx5c HB6m1.out (.inl (Nat.lt_of_lt_of_le (blk_lt HB6.out) (Ext.refl _).size)))
    have HB8m2 := Lib.hid (Chg.blk mx5c HB8m1.out (.inr (Ext.refl _).size))
    have HB10m2 := Lib.hid (Chg.blk mx5c HB10m1.out (.inr (e8.trans h10).size))
    have spoo_m2 := Vd.own_kept spoo_m1 mx5c (rng_apart (.inl (h6.trans e6).size))
    have mx0o_m2 := Topo.own_kept mx0o mx5c (rng_apart (.inl e6.size))
    have gpo0_m2 := Vd.own_kept gpo0_m1 mx5c (rng_apart (.inr e8.size))
    have t0o0_m2 := Topo.own_kept t0o0_m1 mx5c (rng_apart (.inr (((e8.trans h10).trans e10).trans h12).size))
    have t5o0_m2 := Pkt.own_kept t5o0_m1 mx5c (rng_apart (.inr (((((e8.trans h10).trans e10).trans h12).trans ((Ext.refl _).drew.trans h13)).trans h14).size))
    have X2 := Ext.chg (X1.trans (Ext.refl _)) mx5c (fun i hi => Nat.le_trans ((((((e0.trans e1).trans h3).trans h4).trans sphx).trans h6).trans e6).size hi.1)
    have hqp : ¬ (1 + (a0).cnt + (a5).cnt) < 0 := by omega
    have hc67 := blk2 HB0m2.out
    have hc68 := blk10 HB1m2.out
    have hc69 := blk12 spHBm2.out
    have hc70 := blk2 HB6m2.out
    have hc71 := blk10 HB8m2.out
    have hc72 := blk12 HB10m2.out
    go_wp2_with fail
    refine (l_eqVerdict (forward a0 a1 a2 a3 a4 a5) (forward a0 a1 a2 a3 a4 a5) (.slice gpp0 ((forward a0 a1 a2 a3 a4 a5).pkt.path.parts).length gpc0) (.slice gpp1 ((forward a0 a1 a2 a3 a4 a5).pkt.pay).length gpc1) (.slice spp0 ((forward a0 a1 a2 a3 a4 a5).pkt.path.parts).length spc0) (.slice spp1 ((forward a0 a1 a2 a3 a4 a5).pkt.pay).length spc1) _ (Vd.own_rd0 gpo0_m2) (Vd.own_rd1 gpo0_m2) (Vd.own_rd0 spoo_m2) (Vd.own_rd1 spoo_m2)).mono ?_
    rintro e w19 ⟨rfl, h19⟩
    rw [show decide ((forward a0 a1 a2 a3 a4 a5) = (forward a0 a1 a2 a3 a4 a5)) = true from decide_eq_true rfl]
    have hc73 := blk2 (Ext.block h19 HB0m2.out)
    have hc74 := blk10 (Ext.block h19 HB1m2.out)
    have hc75 := blk12 (Ext.block h19 spHBm2.out)
    have hc76 := blk2 (Ext.block h19 HB6m2.out)
    have hc77 := blk10 (Ext.block h19 HB8m2.out)
    have hc78 := blk12 (Ext.block h19 HB10m2.out)
    go_wp2_with fail
    refine (l_markVerdict ((forward a0 a1 a2 a3 a4 a5)) (.slice gpp0 ((forward a0 a1 a2 a3 a4 a5).pkt.path.parts).length gpc0) (.slice gpp1 ((forward a0 a1 a2 a3 a4 a5).pkt.pay).length gpc1) (1) _ _ (Vd.own_ext gpo0_m2 h19) (by omega) (by omega)).mono ?_
    rintro e w20 ⟨rfl, mgo, mgc⟩
    have HB0m3 := Lib.hid (Chg.blk mgc (Ext.block h19 HB0m2.out) (.inl (Nat.lt_of_lt_of_le (blk_lt HB0.out) (((((((e1.trans h3).trans h4).trans sphx).trans h6).trans e6).trans h8).trans e8).size)))
    have HB1m3 := Lib.hid (Chg.blk mgc (Ext.block h19 HB1m2.out) (.inl (Nat.lt_of_lt_of_le (blk_lt HB1.out) ((((((h3.trans h4).trans sphx).trans h6).trans e6).trans h8).trans e8).size)))
    have spHBm3 := Lib.hid (Chg.blk mgc (Ext.block h19 spHBm2.out) (.inl (Nat.lt_of_lt_of_le (blk_lt spHB.out) (((h6.trans e6).trans h8).trans e8).size)))
    have HB6m3 := Lib.hid (Chg.blk mgc (Ext.block h19 HB6m2.out) (.inl (Nat.lt_of_lt_of_le (blk_lt HB6.out) (h8.trans e8).size)))
    have HB8m3 := Lib.hid (Chg.blk mgc (Ext.block h19 HB8m2.out) (.inl (Nat.lt_of_lt_of_le (blk_lt HB8.out) (Ext.refl _).size)))
    have HB10m3 := Lib.hid (Chg.blk mgc (Ext.block h19 HB10m2.out) (.inr (Ext.refl _).size))
    have spoo_m3 := Vd.own_kept (Vd.own_ext spoo_m2 h19) mgc (rng_apart (.inl (((h6.trans e6).trans h8).trans e8).size))
    have mx0o_m3 := Topo.own_kept (Topo.own_ext mx0o_m2 h19) mgc (rng_apart (.inl ((e6.trans h8).trans e8).size))
    have mx5o_m3 := Pkt.own_kept (Pkt.own_ext mx5o h19) mgc (rng_apart (.inl e8.size))
    have t0o0_m3 := Topo.own_kept (Topo.own_ext t0o0_m2 h19) mgc (rng_apart (.inr (e10.trans h12).size))
    have t5o0_m3 := Pkt.own_kept (Pkt.own_ext t5o0_m2 h19) mgc (rng_apart (.inr (((e10.trans h12).trans ((Ext.refl _).drew.trans h13)).trans h14).size))
    have X3 := Ext.chg (X2.trans h19) mgc (fun i hi => Nat.le_trans ((((((((e0.trans e1).trans h3).trans h4).trans sphx).trans h6).trans e6).trans h8).trans e8).size hi.1)
    have hc79 := blk2 HB0m3.out
    have hc80 := blk10 HB1m3.out
    have hc81 := blk12 spHBm3.out
    have hc82 := blk2 HB6m3.out
    have hc83 := blk10 HB8m3.out
    have hc84 := blk12 HB10m3.out
    go_wp2_with fail
    refine (l_heldVerdict ((forward a0 a1 a2 a3 a4 a5)) (.slice gpp0 ((forward a0 a1 a2 a3 a4 a5).pkt.path.parts).length gpc0) (.slice gpp1 ((forward a0 a1 a2 a3 a4 a5).pkt.pay).length gpc1) (1) _ (Vd.own_rd0 mgo) (Vd.own_rd1 mgo) (by omega) (by omega)).mono ?_
    rintro e w21 ⟨rfl, h21⟩
    have hmp : ¬ (1 + ((forward a0 a1 a2 a3 a4 a5)).cnt) < 0 := by omega
    have hc85 := blk2 (Ext.block h21 HB0m3.out)
    have hc86 := blk10 (Ext.block h21 HB1m3.out)
    have hc87 := blk12 (Ext.block h21 spHBm3.out)
    have hc88 := blk2 (Ext.block h21 HB6m3.out)
    have hc89 := blk10 (Ext.block h21 HB8m3.out)
    have hc90 := blk12 (Ext.block h21 HB10m3.out)
    go_upto_region 31 with (fail)
    go_cut [21] (fun vb wx => ∃ g hpu0 hpu1, vb = .pointer (some ⟨g, 0, none⟩) ∧ wx.heap[g]? = some (.cells #[.int .i64 (forward a0 a1 a2 a3 a4 a5).code, .int .i64 (forward a0 a1 a2 a3 a4 a5).eg, .int .i64 (forward a0 a1 a2 a3 a4 a5).pkt.kind, .int .i64 (forward a0 a1 a2 a3 a4 a5).pkt.src, .int .i64 (forward a0 a1 a2 a3 a4 a5).pkt.dst, hpu0, .int .i64 (forward a0 a1 a2 a3 a4 a5).pkt.pi, .int .i64 (forward a0 a1 a2 a3 a4 a5).pkt.hi, .int .i64 (forward a0 a1 a2 a3 a4 a5).pkt.beta, .int .i64 (forward a0 a1 a2 a3 a4 a5).pkt.rid, .int .i64 (forward a0 a1 a2 a3 a4 a5).pkt.seq, hpu1] 66) ∧ w21.heap.size ≤ g ∧ Vd.own (rng w21.heap.size wx.heap.size) wx hpu0 hpu1 (forward a0 a1 a2 a3 a4 a5) ∧ Ext w21 wx)
    case first =>
      refine planStep (.blk [0, 2, 3, 4, 5, 6] (.two 1 9 (.two 7 9 (.two 8 9 (.one 9 (.one 10 .done)) (.one 8 (.one 10 .done))) (.one 7 (.one 8 (.one 10 .done)))) (.one 1 (.one 7 (.one 8 (.one 10 .done)))))) [10] (by kernel_rfl) (by kernel_rfl) ?_
      refine blkStep (fun K HK => ?_)
      simp only [pick, List.filterMap_cons, List.filterMap_nil, List.getElem?_toArray, List.getElem?_cons_zero, List.getElem?_cons_succ]
      go_wp2_with fail
      refine HK.out _ _ ?_
      clear HK K
      refine twoStep ?_ ?_
      · refine oneStep (fun K HK => ?_)
        simp only [pick, List.filterMap_cons, List.filterMap_nil, List.getElem?_toArray, List.getElem?_cons_zero, List.getElem?_cons_succ]
        go_wp2_with fail
        refine (l_toTopologyO a0 v0h0 v0h1 _ (r0h0.ext ((X3.trans h21).trans (Ext.refl _).drew)) (r0h1.ext ((X3.trans h21).trans (Ext.refl _).drew)) y0).mono ?_
        rintro e hpw0 ⟨hp0v0, hp0v1, rfl, hp0o, hph0⟩
        have hc91 := blk2 (Ext.block (h21.trans ((Ext.refl _).drew.trans hph0)) HB0m3.out)
        have hc92 := blk10 (Ext.block (h21.trans ((Ext.refl _).drew.trans hph0)) HB1m3.out)
        have hc93 := blk12 (Ext.block (h21.trans ((Ext.refl _).drew.trans hph0)) spHBm3.out)
        have hc94 := blk2 (Ext.block (h21.trans ((Ext.refl _).drew.trans hph0)) HB6m3.out)
        have hc95 := blk10 (Ext.block (h21.trans ((Ext.refl _).drew.trans hph0)) HB8m3.out)
        have hc96 := blk12 (Ext.block (h21.trans ((Ext.refl _).drew.trans hph0)) HB10m3.out)
        go_wp2_with fail
        refine HK.out _ _ hph0 ?_
        clear HK K
        refine twoStep ?_ ?_
        · refine oneStep (fun K HK => ?_)
          simp only [pick, List.filterMap_cons, List.filterMap_nil, List.getElem?_toArray, List.getElem?_cons_zero, List.getElem?_cons_succ]
          go_wp2_with fail
          refine (l_toPacket a5 v5h0 v5h1 _ (r5h0.ext ((X3.trans h21).trans ((Ext.refl _).drew.trans hph0))) (r5h1.ext ((X3.trans h21).trans ((Ext.refl _).drew.trans hph0))) y5).mono ?_
          rintro e hpw1 ⟨hp5v0, hp5v1, rfl, hp5o, hph1⟩
          have hc97 := blk2 (Ext.block (h21.trans (((Ext.refl _).drew.trans hph0).trans hph1)) HB0m3.out)
          have hc98 := blk10 (Ext.block (h21.trans (((Ext.refl _).drew.trans hph0).trans hph1)) HB1m3.out)
          have hc99 := blk12 (Ext.block (h21.trans (((Ext.refl _).drew.trans hph0).trans hph1)) spHBm3.out)
          have hc100 := blk2 (Ext.block (h21.trans (((Ext.refl _).drew.trans hph0).trans hph1)) HB6m3.out)
          have hc101 := blk10 (Ext.block (h21.trans (((Ext.refl _).drew.trans hph0).trans hph1)) HB8m3.out)
          have hc102 := blk12 (Ext.block (h21.trans (((Ext.refl _).drew.trans hph0).trans hph1)) HB10m3.out)
          go_wp2_with fail
          refine HK.out _ _ hph1 ?_
          clear HK K
          refine twoStep ?_ ?_
          · refine oneStep (fun K HK => ?_)
            simp only [pick, List.filterMap_cons, List.filterMap_nil, List.getElem?_toArray, List.getElem?_cons_zero, List.getElem?_cons_succ]
            go_wp2_with fail
            refine (i_Forward a0 hp0v0 hp0v1 a1 a2 a3 a4 a5 hp5v0 hp5v1 _ (Topo.own_rd0 (Topo.own_ext hp0o hph1)) (Topo.own_rd1 (Topo.own_ext hp0o hph1)) (Pkt.own_rd0 (Pkt.own_ext hp5o (Ext.refl _))) (Pkt.own_rd1 (Pkt.own_ext hp5o (Ext.refl _))) y5).mono ?_
            rintro e hpw2 ⟨hpu0, hpu1, rfl, hpoo, hph2⟩
            obtain ⟨hpp0, hpc0, rfl, hpl0⟩ := (Vd.own_rd0 hpoo).shape; clear hpl0
            obtain ⟨hpp1, hpc1, rfl, hpl1⟩ := (Vd.own_rd1 hpoo).shape; clear hpl1
            have hc103 := blk2 (Ext.block (h21.trans ((((Ext.refl _).drew.trans hph0).trans hph1).trans hph2)) HB0m3.out)
            have hc104 := blk10 (Ext.block (h21.trans ((((Ext.refl _).drew.trans hph0).trans hph1).trans hph2)) HB1m3.out)
            have hc105 := blk12 (Ext.block (h21.trans ((((Ext.refl _).drew.trans hph0).trans hph1).trans hph2)) spHBm3.out)
            have hc106 := blk2 (Ext.block (h21.trans ((((Ext.refl _).drew.trans hph0).trans hph1).trans hph2)) HB6m3.out)
            have hc107 := blk10 (Ext.block (h21.trans ((((Ext.refl _).drew.trans hph0).trans hph1).trans hph2)) HB8m3.out)
            have hc108 := blk12 (Ext.block (h21.trans ((((Ext.refl _).drew.trans hph0).trans hph1).trans hph2)) HB10m3.out)
            go_wp2_with fail
            refine HK.out _ _ hph2 ?_
            clear HK K
            refine oneStep (fun K HK => ?_)
            simp only [pick, List.filterMap_cons, List.filterMap_nil, List.getElem?_toArray, List.getElem?_cons_zero, List.getElem?_cons_succ]
            go_wp2_with fail
            refine HK.out _ _ ((Ext.refl _).alloc _) ?_
            clear HK K
            refine badStep (by kernel_rfl) (fun K HK => ?_)
            simp only [pick, List.filterMap_cons, List.filterMap_nil, List.getElem?_toArray, List.getElem?_cons_zero, List.getElem?_cons_succ]
            go_wp2_with fail
            refine HK.out _ _ ?_
            clear HK K
            refine doneStep (by kernel_rfl) ?_
            go_wp2_with fail
            go_meet
            exact ⟨_, _, _, rfl, blk_new _ _, ((((Ext.refl _).drew.trans hph0).trans hph1).trans hph2).size, Vd.own_mono (Vd.own_ext hpoo ((Ext.refl _).alloc _)) (fun b hb => ⟨by have h1 := hb.1; exact Nat.le_trans (((Ext.refl _).drew.trans hph0).trans hph1).size h1, Nat.lt_of_lt_of_le hb.2 ((Ext.refl _).alloc _).size⟩), ((((Ext.refl _).drew.trans hph0).trans hph1).trans hph2).alloc _⟩
          · have hphba := blk_new hpw1 (.cells #[.int .i64 0, .int .i64 0, .int .i64 0, .int .i64 0, .int .i64 0, .slice none 0 0, .int .i64 0, .int .i64 0, .int .i64 0, .int .i64 0, .int .i64 0, .slice none 0 0] 66)
            have hpHBA := Lib.hid hphba; clear hphba
            refine oneStep (fun K HK => ?_)
            simp only [pick, List.filterMap_cons, List.filterMap_nil, List.getElem?_toArray, List.getElem?_cons_zero, List.getElem?_cons_succ]
            go_wp2_with fail
            refine HK.out _ _ ((Ext.refl _).alloc _) ?_
            clear HK K
            refine oneStep (fun K HK => ?_)
            simp only [pick, List.filterMap_cons, List.filterMap_nil, List.getElem?_toArray, List.getElem?_cons_zero, List.getElem?_cons_succ]
            go_wp2_with fail
            refine (i_Forward a0 hp0v0 hp0v1 a1 a2 a3 a4 a5 hp5v0 hp5v1 _ (Topo.own_rd0 (Topo.own_ext hp0o (hph1.trans ((Ext.refl _).alloc _)))) (Topo.own_rd1 (Topo.own_ext hp0o (hph1.trans ((Ext.refl _).alloc _)))) (Pkt.own_rd0 (Pkt.own_ext hp5o ((Ext.refl _).alloc _))) (Pkt.own_rd1 (Pkt.own_ext hp5o ((Ext.refl _).alloc _))) y5).mono ?_
            rintro e hpw2 ⟨hpu0, hpu1, rfl, hpoo, hph2⟩
            obtain ⟨hpp0, hpc0, rfl, hpl0⟩ := (Vd.own_rd0 hpoo).shape; clear hpl0
            obtain ⟨hpp1, hpc1, rfl, hpl1⟩ := (Vd.own_rd1 hpoo).shape; clear hpl1
            have hc109 := blk2 (Ext.block (h21.trans (((((Ext.refl _).drew.trans hph0).trans hph1).trans ((Ext.refl _).alloc _)).trans hph2)) HB0m3.out)
            have hc110 := blk10 (Ext.block (h21.trans (((((Ext.refl _).drew.trans hph0).trans hph1).trans ((Ext.refl _).alloc _)).trans hph2)) HB1m3.out)
            have hc111 := blk12 (Ext.block (h21.trans (((((Ext.refl _).drew.trans hph0).trans hph1).trans ((Ext.refl _).alloc _)).trans hph2)) spHBm3.out)
            have hc112 := blk2 (Ext.block (h21.trans (((((Ext.refl _).drew.trans hph0).trans hph1).trans ((Ext.refl _).alloc _)).trans hph2)) HB6m3.out)
            have hc113 := blk10 (Ext.block (h21.trans (((((Ext.refl _).drew.trans hph0).trans hph1).trans ((Ext.refl _).alloc _)).trans hph2)) HB8m3.out)
            have hc114 := blk12 (Ext.block (h21.trans (((((Ext.refl _).drew.trans hph0).trans hph1).trans ((Ext.refl _).alloc _)).trans hph2)) HB10m3.out)
            go_wp2_with fail
            refine HK.out _ _ hph2 ?_
            clear HK K
            have hphbs := Ext.block hph2 hpHBA.out
            have hpcs := blk12 hphbs
            have hpf0 := fr_of hphbs 0
            have hpf1 := fr_of hphbs 1
            have hpf2 := fr_of hphbs 2
            have hpf3 := fr_of hphbs 3
            have hpf4 := fr_of hphbs 4
            have hpf5 := fr_of hphbs 5
            have hpf6 := fr_of hphbs 6
            have hpf7 := fr_of hphbs 7
            have hpf8 := fr_of hphbs 8
            have hpf9 := fr_of hphbs 9
            have hpf10 := fr_of hphbs 10
            have hpf11 := fr_of hphbs 11
            have hpHBS := Lib.hid hphbs; clear hphbs
            refine badStep (by kernel_rfl) (fun K HK => ?_)
            simp only [pick, List.filterMap_cons, List.filterMap_nil, List.getElem?_toArray, List.getElem?_cons_zero, List.getElem?_cons_succ]
            go_wp2_with fail
            refine HK.out _ _ ?_
            clear HK K
            refine doneStep (by kernel_rfl) ?_
            go_wp2_with fail
            go_meet
            obtain ⟨wq, hwq, hbq, hcq, hsq⟩ := vd_set hpHBS.out (.int .i64 (forward a0 a1 a2 a3 a4 a5).code) (.int .i64 (forward a0 a1 a2 a3 a4 a5).eg) (.int .i64 (forward a0 a1 a2 a3 a4 a5).pkt.kind) (.int .i64 (forward a0 a1 a2 a3 a4 a5).pkt.src) (.int .i64 (forward a0 a1 a2 a3 a4 a5).pkt.dst) ((.slice hpp0 ((forward a0 a1 a2 a3 a4 a5).pkt.path.parts).length hpc0)) (.int .i64 (forward a0 a1 a2 a3 a4 a5).pkt.pi) (.int .i64 (forward a0 a1 a2 a3 a4 a5).pkt.hi) (.int .i64 (forward a0 a1 a2 a3 a4 a5).pkt.beta) (.int .i64 (forward a0 a1 a2 a3 a4 a5).pkt.rid) (.int .i64 (forward a0 a1 a2 a3 a4 a5).pkt.seq) ((.slice hpp1 ((forward a0 a1 a2 a3 a4 a5).pkt.pay).length hpc1))
            rw [← hwq]
            exact ⟨_, _, _, rfl, hbq, (((Ext.refl _).drew.trans hph0).trans hph1).size, Vd.own_mono (Vd.own_kept (Vd.own_ext hpoo (Ext.refl _)) hcq (fun b hb e => absurd hb.1 (by rw [e]; exact Nat.not_le.2 (Nat.lt_of_lt_of_le (blk_lt hpHBA.out) (Ext.refl _).size)))) (fun b hb => ⟨Nat.le_trans ((((Ext.refl _).drew.trans hph0).trans hph1).trans ((Ext.refl _).alloc _)).size hb.1, by rw [hsq]; exact Nat.lt_of_lt_of_le hb.2 (Ext.refl _).size⟩), (((((Ext.refl _).drew.trans hph0).trans hph1).trans ((Ext.refl _).alloc _)).trans hph2).chg1 hcq (((Ext.refl _).drew.trans hph0).trans hph1).size⟩
        · have hphba := blk_new hpw0 (.cells #[.int .i64 0, .int .i64 0, .int .i64 0, .int .i64 0, .int .i64 0, .slice none 0 0, .int .i64 0, .int .i64 0, .int .i64 0, .int .i64 0, .int .i64 0, .slice none 0 0] 66)
          have hpHBA := Lib.hid hphba; clear hphba
          refine oneStep (fun K HK => ?_)
          simp only [pick, List.filterMap_cons, List.filterMap_nil, List.getElem?_toArray, List.getElem?_cons_zero, List.getElem?_cons_succ]
          go_wp2_with fail
          refine HK.out _ _ ((Ext.refl _).alloc _) ?_
          clear HK K
          refine oneStep (fun K HK => ?_)
          simp only [pick, List.filterMap_cons, List.filterMap_nil, List.getElem?_toArray, List.getElem?_cons_zero, List.getElem?_cons_succ]
          go_wp2_with fail
          refine (l_toPacket a5 v5h0 v5h1 _ (r5h0.ext ((X3.trans h21).trans (((Ext.refl _).drew.trans hph0).trans ((Ext.refl _).alloc _)))) (r5h1.ext ((X3.trans h21).trans (((Ext.refl _).drew.trans hph0).trans ((Ext.refl _).alloc _)))) y5).mono ?_
          rintro e hpw1 ⟨hp5v0, hp5v1, rfl, hp5o, hph1⟩
          have hc115 := blk2 (Ext.block (h21.trans ((((Ext.refl _).drew.trans hph0).trans ((Ext.refl _).alloc _)).trans hph1)) HB0m3.out)
          have hc116 := blk10 (Ext.block (h21.trans ((((Ext.refl _).drew.trans hph0).trans ((Ext.refl _).alloc _)).trans hph1)) HB1m3.out)
          have hc117 := blk12 (Ext.block (h21.trans ((((Ext.refl _).drew.trans hph0).trans ((Ext.refl _).alloc _)).trans hph1)) spHBm3.out)
          have hc118 := blk2 (Ext.block (h21.trans ((((Ext.refl _).drew.trans hph0).trans ((Ext.refl _).alloc _)).trans hph1)) HB6m3.out)
          have hc119 := blk10 (Ext.block (h21.trans ((((Ext.refl _).drew.trans hph0).trans ((Ext.refl _).alloc _)).trans hph1)) HB8m3.out)
          have hc120 := blk12 (Ext.block (h21.trans ((((Ext.refl _).drew.trans hph0).trans ((Ext.refl _).alloc _)).trans hph1)) HB10m3.out)
          go_wp2_with fail
          refine HK.out _ _ hph1 ?_
          clear HK K
          refine oneStep (fun K HK => ?_)
          simp only [pick, List.filterMap_cons, List.filterMap_nil, List.getElem?_toArray, List.getElem?_cons_zero, List.getElem?_cons_succ]
          go_wp2_with fail
          refine (i_Forward a0 hp0v0 hp0v1 a1 a2 a3 a4 a5 hp5v0 hp5v1 _ (Topo.own_rd0 (Topo.own_ext hp0o (((Ext.refl _).alloc _).trans hph1))) (Topo.own_rd1 (Topo.own_ext hp0o (((Ext.refl _).alloc _).trans hph1))) (Pkt.own_rd0 (Pkt.own_ext hp5o (Ext.refl _))) (Pkt.own_rd1 (Pkt.own_ext hp5o (Ext.refl _))) y5).mono ?_
          rintro e hpw2 ⟨hpu0, hpu1, rfl, hpoo, hph2⟩
          obtain ⟨hpp0, hpc0, rfl, hpl0⟩ := (Vd.own_rd0 hpoo).shape; clear hpl0
          obtain ⟨hpp1, hpc1, rfl, hpl1⟩ := (Vd.own_rd1 hpoo).shape; clear hpl1
          have hc121 := blk2 (Ext.block (h21.trans (((((Ext.refl _).drew.trans hph0).trans ((Ext.refl _).alloc _)).trans hph1).trans hph2)) HB0m3.out)
          have hc122 := blk10 (Ext.block (h21.trans (((((Ext.refl _).drew.trans hph0).trans ((Ext.refl _).alloc _)).trans hph1).trans hph2)) HB1m3.out)
          have hc123 := blk12 (Ext.block (h21.trans (((((Ext.refl _).drew.trans hph0).trans ((Ext.refl _).alloc _)).trans hph1).trans hph2)) spHBm3.out)
          have hc124 := blk2 (Ext.block (h21.trans (((((Ext.refl _).drew.trans hph0).trans ((Ext.refl _).alloc _)).trans hph1).trans hph2)) HB6m3.out)
          have hc125 := blk10 (Ext.block (h21.trans (((((Ext.refl _).drew.trans hph0).trans ((Ext.refl _).alloc _)).trans hph1).trans hph2)) HB8m3.out)
          have hc126 := blk12 (Ext.block (h21.trans (((((Ext.refl _).drew.trans hph0).trans ((Ext.refl _).alloc _)).trans hph1).trans hph2)) HB10m3.out)
          go_wp2_with fail
          refine HK.out _ _ hph2 ?_
          clear HK K
          have hphbs := Ext.block (hph1.trans hph2) hpHBA.out
          have hpcs := blk12 hphbs
          have hpf0 := fr_of hphbs 0
          have hpf1 := fr_of hphbs 1
          have hpf2 := fr_of hphbs 2
          have hpf3 := fr_of hphbs 3
          have hpf4 := fr_of hphbs 4
          have hpf5 := fr_of hphbs 5
          have hpf6 := fr_of hphbs 6
          have hpf7 := fr_of hphbs 7
          have hpf8 := fr_of hphbs 8
          have hpf9 := fr_of hphbs 9
          have hpf10 := fr_of hphbs 10
          have hpf11 := fr_of hphbs 11
          have hpHBS := Lib.hid hphbs; clear hphbs
          refine badStep (by kernel_rfl) (fun K HK => ?_)
          simp only [pick, List.filterMap_cons, List.filterMap_nil, List.getElem?_toArray, List.getElem?_cons_zero, List.getElem?_cons_succ]
          go_wp2_with fail
          refine HK.out _ _ ?_
          clear HK K
          refine doneStep (by kernel_rfl) ?_
          go_wp2_with fail
          go_meet
          obtain ⟨wq, hwq, hbq, hcq, hsq⟩ := vd_set hpHBS.out (.int .i64 (forward a0 a1 a2 a3 a4 a5).code) (.int .i64 (forward a0 a1 a2 a3 a4 a5).eg) (.int .i64 (forward a0 a1 a2 a3 a4 a5).pkt.kind) (.int .i64 (forward a0 a1 a2 a3 a4 a5).pkt.src) (.int .i64 (forward a0 a1 a2 a3 a4 a5).pkt.dst) ((.slice hpp0 ((forward a0 a1 a2 a3 a4 a5).pkt.path.parts).length hpc0)) (.int .i64 (forward a0 a1 a2 a3 a4 a5).pkt.pi) (.int .i64 (forward a0 a1 a2 a3 a4 a5).pkt.hi) (.int .i64 (forward a0 a1 a2 a3 a4 a5).pkt.beta) (.int .i64 (forward a0 a1 a2 a3 a4 a5).pkt.rid) (.int .i64 (forward a0 a1 a2 a3 a4 a5).pkt.seq) ((.slice hpp1 ((forward a0 a1 a2 a3 a4 a5).pkt.pay).length hpc1))
          rw [← hwq]
          exact ⟨_, _, _, rfl, hbq, ((Ext.refl _).drew.trans hph0).size, Vd.own_mono (Vd.own_kept (Vd.own_ext hpoo (Ext.refl _)) hcq (fun b hb e => absurd hb.1 (by rw [e]; exact Nat.not_le.2 (Nat.lt_of_lt_of_le (blk_lt hpHBA.out) hph1.size)))) (fun b hb => ⟨Nat.le_trans ((((Ext.refl _).drew.trans hph0).trans ((Ext.refl _).alloc _)).trans hph1).size hb.1, by rw [hsq]; exact Nat.lt_of_lt_of_le hb.2 (Ext.refl _).size⟩), (((((Ext.refl _).drew.trans hph0).trans ((Ext.refl _).alloc _)).trans hph1).trans hph2).chg1 hcq ((Ext.refl _).drew.trans hph0).size⟩
      · have hphba := blk_new w21 (.cells #[.int .i64 0, .int .i64 0, .int .i64 0, .int .i64 0, .int .i64 0, .slice none 0 0, .int .i64 0, .int .i64 0, .int .i64 0, .int .i64 0, .int .i64 0, .slice none 0 0] 66)
        have hpHBA := Lib.hid hphba; clear hphba
        refine oneStep (fun K HK => ?_)
        simp only [pick, List.filterMap_cons, List.filterMap_nil, List.getElem?_toArray, List.getElem?_cons_zero, List.getElem?_cons_succ]
        go_wp2_with fail
        refine HK.out _ _ ((Ext.refl _).alloc _) ?_
        clear HK K
        refine oneStep (fun K HK => ?_)
        simp only [pick, List.filterMap_cons, List.filterMap_nil, List.getElem?_toArray, List.getElem?_cons_zero, List.getElem?_cons_succ]
        go_wp2_with fail
        refine (l_toTopologyO a0 v0h0 v0h1 _ (r0h0.ext ((X3.trans h21).trans ((Ext.refl _).drew.trans ((Ext.refl _).alloc _)))) (r0h1.ext ((X3.trans h21).trans ((Ext.refl _).drew.trans ((Ext.refl _).alloc _)))) y0).mono ?_
        rintro e hpw0 ⟨hp0v0, hp0v1, rfl, hp0o, hph0⟩
        have hc127 := blk2 (Ext.block (h21.trans (((Ext.refl _).drew.trans ((Ext.refl _).alloc _)).trans hph0)) HB0m3.out)
        have hc128 := blk10 (Ext.block (h21.trans (((Ext.refl _).drew.trans ((Ext.refl _).alloc _)).trans hph0)) HB1m3.out)
        have hc129 := blk12 (Ext.block (h21.trans (((Ext.refl _).drew.trans ((Ext.refl _).alloc _)).trans hph0)) spHBm3.out)
        have hc130 := blk2 (Ext.block (h21.trans (((Ext.refl _).drew.trans ((Ext.refl _).alloc _)).trans hph0)) HB6m3.out)
        have hc131 := blk10 (Ext.block (h21.trans (((Ext.refl _).drew.trans ((Ext.refl _).alloc _)).trans hph0)) HB8m3.out)
        have hc132 := blk12 (Ext.block (h21.trans (((Ext.refl _).drew.trans ((Ext.refl _).alloc _)).trans hph0)) HB10m3.out)
        go_wp2_with fail
        refine HK.out _ _ hph0 ?_
        clear HK K
        refine oneStep (fun K HK => ?_)
        simp only [pick, List.filterMap_cons, List.filterMap_nil, List.getElem?_toArray, List.getElem?_cons_zero, List.getElem?_cons_succ]
        go_wp2_with fail
        refine (l_toPacket a5 v5h0 v5h1 _ (r5h0.ext ((X3.trans h21).trans (((Ext.refl _).drew.trans ((Ext.refl _).alloc _)).trans hph0))) (r5h1.ext ((X3.trans h21).trans (((Ext.refl _).drew.trans ((Ext.refl _).alloc _)).trans hph0))) y5).mono ?_
        rintro e hpw1 ⟨hp5v0, hp5v1, rfl, hp5o, hph1⟩
        have hc133 := blk2 (Ext.block (h21.trans ((((Ext.refl _).drew.trans ((Ext.refl _).alloc _)).trans hph0).trans hph1)) HB0m3.out)
        have hc134 := blk10 (Ext.block (h21.trans ((((Ext.refl _).drew.trans ((Ext.refl _).alloc _)).trans hph0).trans hph1)) HB1m3.out)
        have hc135 := blk12 (Ext.block (h21.trans ((((Ext.refl _).drew.trans ((Ext.refl _).alloc _)).trans hph0).trans hph1)) spHBm3.out)
        have hc136 := blk2 (Ext.block (h21.trans ((((Ext.refl _).drew.trans ((Ext.refl _).alloc _)).trans hph0).trans hph1)) HB6m3.out)
        have hc137 := blk10 (Ext.block (h21.trans ((((Ext.refl _).drew.trans ((Ext.refl _).alloc _)).trans hph0).trans hph1)) HB8m3.out)
        have hc138 := blk12 (Ext.block (h21.trans ((((Ext.refl _).drew.trans ((Ext.refl _).alloc _)).trans hph0).trans hph1)) HB10m3.out)
        go_wp2_with fail
        refine HK.out _ _ hph1 ?_
        clear HK K
        refine oneStep (fun K HK => ?_)
        simp only [pick, List.filterMap_cons, List.filterMap_nil, List.getElem?_toArray, List.getElem?_cons_zero, List.getElem?_cons_succ]
        go_wp2_with fail
        refine (i_Forward a0 hp0v0 hp0v1 a1 a2 a3 a4 a5 hp5v0 hp5v1 _ (Topo.own_rd0 (Topo.own_ext hp0o hph1)) (Topo.own_rd1 (Topo.own_ext hp0o hph1)) (Pkt.own_rd0 (Pkt.own_ext hp5o (Ext.refl _))) (Pkt.own_rd1 (Pkt.own_ext hp5o (Ext.refl _))) y5).mono ?_
        rintro e hpw2 ⟨hpu0, hpu1, rfl, hpoo, hph2⟩
        obtain ⟨hpp0, hpc0, rfl, hpl0⟩ := (Vd.own_rd0 hpoo).shape; clear hpl0
        obtain ⟨hpp1, hpc1, rfl, hpl1⟩ := (Vd.own_rd1 hpoo).shape; clear hpl1
        have hc139 := blk2 (Ext.block (h21.trans (((((Ext.refl _).drew.trans ((Ext.refl _).alloc _)).trans hph0).trans hph1).trans hph2)) HB0m3.out)
        have hc140 := blk10 (Ext.block (h21.trans (((((Ext.refl _).drew.trans ((Ext.refl _).alloc _)).trans hph0).trans hph1).trans hph2)) HB1m3.out)
        have hc141 := blk12 (Ext.block (h21.trans (((((Ext.refl _).drew.trans ((Ext.refl _).alloc _)).trans hph0).trans hph1).trans hph2)) spHBm3.out)
        have hc142 := blk2 (Ext.block (h21.trans (((((Ext.refl _).drew.trans ((Ext.refl _).alloc _)).trans hph0).trans hph1).trans hph2)) HB6m3.out)
        have hc143 := blk10 (Ext.block (h21.trans (((((Ext.refl _).drew.trans ((Ext.refl _).alloc _)).trans hph0).trans hph1).trans hph2)) HB8m3.out)
        have hc144 := blk12 (Ext.block (h21.trans (((((Ext.refl _).drew.trans ((Ext.refl _).alloc _)).trans hph0).trans hph1).trans hph2)) HB10m3.out)
        go_wp2_with fail
        refine HK.out _ _ hph2 ?_
        clear HK K
        have hphbs := Ext.block ((hph0.trans hph1).trans hph2) hpHBA.out
        have hpcs := blk12 hphbs
        have hpf0 := fr_of hphbs 0
        have hpf1 := fr_of hphbs 1
        have hpf2 := fr_of hphbs 2
        have hpf3 := fr_of hphbs 3
        have hpf4 := fr_of hphbs 4
        have hpf5 := fr_of hphbs 5
        have hpf6 := fr_of hphbs 6
        have hpf7 := fr_of hphbs 7
        have hpf8 := fr_of hphbs 8
        have hpf9 := fr_of hphbs 9
        have hpf10 := fr_of hphbs 10
        have hpf11 := fr_of hphbs 11
        have hpHBS := Lib.hid hphbs; clear hphbs
        refine badStep (by kernel_rfl) (fun K HK => ?_)
        simp only [pick, List.filterMap_cons, List.filterMap_nil, List.getElem?_toArray, List.getElem?_cons_zero, List.getElem?_cons_succ]
        go_wp2_with fail
        refine HK.out _ _ ?_
        clear HK K
        refine doneStep (by kernel_rfl) ?_
        go_wp2_with fail
        go_meet
        obtain ⟨wq, hwq, hbq, hcq, hsq⟩ := vd_set hpHBS.out (.int .i64 (forward a0 a1 a2 a3 a4 a5).code) (.int .i64 (forward a0 a1 a2 a3 a4 a5).eg) (.int .i64 (forward a0 a1 a2 a3 a4 a5).pkt.kind) (.int .i64 (forward a0 a1 a2 a3 a4 a5).pkt.src) (.int .i64 (forward a0 a1 a2 a3 a4 a5).pkt.dst) ((.slice hpp0 ((forward a0 a1 a2 a3 a4 a5).pkt.path.parts).length hpc0)) (.int .i64 (forward a0 a1 a2 a3 a4 a5).pkt.pi) (.int .i64 (forward a0 a1 a2 a3 a4 a5).pkt.hi) (.int .i64 (forward a0 a1 a2 a3 a4 a5).pkt.beta) (.int .i64 (forward a0 a1 a2 a3 a4 a5).pkt.rid) (.int .i64 (forward a0 a1 a2 a3 a4 a5).pkt.seq) ((.slice hpp1 ((forward a0 a1 a2 a3 a4 a5).pkt.pay).length hpc1))
        rw [← hwq]
        exact ⟨_, _, _, rfl, hbq, (Ext.refl _).drew.size, Vd.own_mono (Vd.own_kept (Vd.own_ext hpoo (Ext.refl _)) hcq (fun b hb e => absurd hb.1 (by rw [e]; exact Nat.not_le.2 (Nat.lt_of_lt_of_le (blk_lt hpHBA.out) (hph0.trans hph1).size)))) (fun b hb => ⟨Nat.le_trans ((((Ext.refl _).drew.trans ((Ext.refl _).alloc _)).trans hph0).trans hph1).size hb.1, by rw [hsq]; exact Nat.lt_of_lt_of_le hb.2 (Ext.refl _).size⟩), (((((Ext.refl _).drew.trans ((Ext.refl _).alloc _)).trans hph0).trans hph1).trans hph2).chg1 hcq (Ext.refl _).drew.size⟩
    case rest =>
      obtain ⟨hpg, hpu0, hpu1, rfl, hphb, hphg, hpoo, hphx⟩ := hcut
      obtain ⟨w22, hwn⟩ : ∃ wA : World, wA = wc := ⟨_, rfl⟩
      subst hwn
      have hpHB := Lib.hid hphb; clear hphb
      obtain ⟨hpp0, hpc0, rfl, hpl0⟩ := (Vd.own_rd0 hpoo).shape; clear hpl0
      obtain ⟨hpp1, hpc1, rfl, hpl1⟩ := (Vd.own_rd1 hpoo).shape; clear hpl1
      have hc145 := blk2 (Ext.block (h21.trans hphx) HB0m3.out)
      have hc146 := blk10 (Ext.block (h21.trans hphx) HB1m3.out)
      have hc147 := blk12 (Ext.block (h21.trans hphx) spHBm3.out)
      have hc148 := blk2 (Ext.block (h21.trans hphx) HB6m3.out)
      have hc149 := blk10 (Ext.block (h21.trans hphx) HB8m3.out)
      have hc150 := blk12 (Ext.block (h21.trans hphx) HB10m3.out)
      have hc151 := blk12 hpHB.out
      go_wp2_with fail
      refine (l_eqVerdict (forward a0 a1 a2 a3 a4 a5) (forward a0 a1 a2 a3 a4 a5) (.slice hpp0 ((forward a0 a1 a2 a3 a4 a5).pkt.path.parts).length hpc0) (.slice hpp1 ((forward a0 a1 a2 a3 a4 a5).pkt.pay).length hpc1) (.slice spp0 ((forward a0 a1 a2 a3 a4 a5).pkt.path.parts).length spc0) (.slice spp1 ((forward a0 a1 a2 a3 a4 a5).pkt.pay).length spc1) _ (Vd.own_rd0 hpoo) (Vd.own_rd1 hpoo) ((Vd.own_rd0 spoo_m3).ext (h21.trans hphx)) ((Vd.own_rd1 spoo_m3).ext (h21.trans hphx))).mono ?_
      rintro e w23 ⟨rfl, h23⟩
      rw [show decide ((forward a0 a1 a2 a3 a4 a5) = (forward a0 a1 a2 a3 a4 a5)) = true from decide_eq_true rfl]
      have hc152 := blk2 (Ext.block ((h21.trans hphx).trans h23) HB0m3.out)
      have hc153 := blk10 (Ext.block ((h21.trans hphx).trans h23) HB1m3.out)
      have hc154 := blk12 (Ext.block ((h21.trans hphx).trans h23) spHBm3.out)
      have hc155 := blk2 (Ext.block ((h21.trans hphx).trans h23) HB6m3.out)
      have hc156 := blk10 (Ext.block ((h21.trans hphx).trans h23) HB8m3.out)
      have hc157 := blk12 (Ext.block ((h21.trans hphx).trans h23) HB10m3.out)
      have hc158 := blk12 (Ext.block h23 hpHB.out)
      go_wp2_with fail
      refine (l_heldVerdict ((forward a0 a1 a2 a3 a4 a5)) (.slice gpp0 ((forward a0 a1 a2 a3 a4 a5).pkt.path.parts).length gpc0) (.slice gpp1 ((forward a0 a1 a2 a3 a4 a5).pkt.pay).length gpc1) (1) _ ((Vd.own_rd0 mgo).ext ((h21.trans hphx).trans h23)) ((Vd.own_rd1 mgo).ext ((h21.trans hphx).trans h23)) (by omega) (by omega)).mono ?_
      rintro e w24 ⟨rfl, h24⟩
      go_wp2_with fail
      go_ret
      exact ⟨rfl, (X3.trans (((h21.trans hphx).trans h23).trans h24))⟩


theorem len6 {α : Type} : ∀ {cs : List α}, cs.length = 6 → ∃ a b c d e f, cs = [a, b, c, d, e, f]
  | [a, b, c, d, e, f], _ => ⟨a, b, c, d, e, f, rfl⟩
set_option maxRecDepth 100000 in
theorem FnExactForward_lifted (os : Os) (started : os.Started) (H : Type) (enc : TypeId × Value → H) :
    ReturnsInHanded {} Tryz.checked os 5 .any (Rows.fnExactForwardSpec.pre6 enc Tryz.prog Tryz.f5 Rows.fnExactForwardRow.domain false) (Rows.fnExactForwardSpec.post enc Tryz.prog Tryz.f5 false true false false) := by
  refine returnsInHanded_of_change (C := Tryz.checked) own_knob started (by kernel_rfl) Tryz.func5
    (ChangeSpec.witness6 (enc := enc) (C := Tryz.checked) false ⟨#[], #[.agg #[.slice none 0 0, .slice none 0 0], .int .i64 0, .int .i64 0, .int .i64 0, .int .i64 0, .agg #[.int .i64 0, .int .i64 0, .int .i64 0, .slice none 0 0, .int .i64 0, .int .i64 0, .int .i64 0, .int .i64 0, .int .i64 0, .slice none 0 0]], []⟩ 8 (by kernel_rfl) (by kernel_rfl) (by kernel_rfl) (by kernel_rfl)) ?_
  intro W base args ds gs before hval0 hW hcnd _
  have hval : ∀ (j : Nat) t v, Tryz.f5.params[j]? = some t → args[j]? = some v → Value.okWide Tryz.prog W .any base t v := hval0
  have hW' := hW
  obtain ⟨p, q, hA0, hV, rfl, hfz, hnd⟩ := hW
  have hA : DataW.TrodAll enc Tryz.prog W 0 (fun _ => true) true Tryz.f5.params.toList args.toList ds p := hA0
  rw [Tryz.params5] at hA hval
  obtain ⟨v0, vs0, d0, ds0, p0, q0, hargs, rfl, rfl, t0, r0⟩ := trodAll_cons hA
  obtain ⟨v1, vs1, d1, ds1, p1, q1, rfl, rfl, rfl, t1, r1⟩ := trodAll_cons r0
  obtain ⟨v2, vs2, d2, ds2, p2, q2, rfl, rfl, rfl, t2, r2⟩ := trodAll_cons r1
  obtain ⟨v3, vs3, d3, ds3, p3, q3, rfl, rfl, rfl, t3, r3⟩ := trodAll_cons r2
  obtain ⟨v4, vs4, d4, ds4, p4, q4, rfl, rfl, rfl, t4, r4⟩ := trodAll_cons r3
  obtain ⟨v5, vs5, d5, ds5, p5, q5, rfl, rfl, rfl, t5, r5⟩ := trodAll_cons r4
  obtain ⟨rfl, rfl, rfl⟩ := trodAll_nil r5
  obtain rfl : args = #[v0, v1, v2, v3, v4, v5] := by cases args; simp_all
  obtain ⟨c0, a0, rfl, b0, k0⟩ := arg_struct Tryz.underlying25 (hval 0 _ v0 rfl rfl) Topo.opens t0
  obtain ⟨v0h0, v0h1, rfl, r0h0, r0h1⟩ := b0
  obtain ⟨a1, rfl, k1⟩ := arg_int Tryz.underlying3 (hval 1 _ v1 rfl rfl) t1
  obtain ⟨a2, rfl, k2⟩ := arg_int Tryz.underlying3 (hval 2 _ v2 rfl rfl) t2
  obtain ⟨a3, rfl, k3⟩ := arg_int Tryz.underlying3 (hval 3 _ v3 rfl rfl) t3
  obtain ⟨a4, rfl, k4⟩ := arg_int Tryz.underlying3 (hval 4 _ v4 rfl rfl) t4
  obtain ⟨c5, a5, rfl, b5, k5⟩ := arg_struct Tryz.underlying32 (hval 5 _ v5 rfl rfl) Pkt.opens t5
  obtain ⟨v5h0, v5h1, rfl, r5h0, r5h1⟩ := b5
  refine (l_FnExactForward a0 v0h0 v0h1 a1 a2 a3 a4 a5 v5h0 v5h1 W r0h0 r0h1 k0 k1 k2 k3 k4 r5h0 r5h1 k5).mono fun e W' ⟨he, hx⟩ => ?_
  subst he
  refine ⟨_, rfl, post_law laid_out ?_ (by kernel_rfl) Tryz.underlying4 rfl ?_ hW' hx⟩
  · rw [Tryz.params5]
    intro t ht
    simp only [List.mem_cons, List.not_mem_nil, or_false] at ht
    rcases ht with rfl | rfl | rfl | rfl | rfl | rfl <;> exact ⟨by kernel_rfl, of_decide_eq_true (by kernel_rfl)⟩
  · rw [Tryz.params5]
    intro ds' h
    obtain ⟨x0, x1, x2, x3, x4, x5, rfl⟩ := len6 (by simpa using h)
    rfl

theorem FnExactForward_holds : Rows.FnExactForwardSaid :=
  OpenClaim.holds_of_wide 5 Tryz.f5 rfl rfl rfl rfl rfl rfl rfl ⟨rfl, rfl, rfl, rfl, rfl⟩ rfl rfl rfl rfl rfl (by kernel_rfl) Tryz.func5 (by kernel_rfl)
    (of_decide_eq_true (by kernel_rfl)) (by unfold Func.isWrapper; first | (rw [if_pos (by decide +kernel)]; kernel_rfl) | (rw [if_neg (by decide +kernel)]; exact ⟨rfl, rfl⟩))
    (fun os started H enc _ => FnExactForward_lifted os started H enc)
#print axioms FnExactForward_holds

end Go.Proofs.YtiabfgebfjmplaaGreat
