/- The contract of Forward, the program. No condition but the bounds that it names. What forwarding keeps of a packet, and its codes: plain laws. No condition but the bounds that each theorem names. Contracts of the walk of a packet, program and reference. No condition but the bounds that each theorem names. What the laws' helper says of a marked trace. No condition but the bounds that the theorem names. The walk of the exact law over Traverse. No condition. The law FnExactTraverse: for every input the call returns true, and each argument reads afterwards as it read before. No condition. -/
import Derived.Test.YtiabfgebfjmplaaGreatW28d
import Derived.Test.YtiabfgebfjmplaaGreatW05t
import Derived.Test.YtiabfgebfjmplaaGreatTyTrc
import Derived.Test.YtiabfgebfjmplaaGreatTyTopoM
namespace Go.Proofs.YtiabfgebfjmplaaGreat
open Go.ChangeShapes Go.WideShapes Go.ChangeAt Go.RowKit Go.Deep

set_option maxRecDepth 100000 in
set_option maxHeartbeats 16000000 in
theorem i_Forward (t : Topo) (va vk : Value) (r now dead inn : Int) (x : Pkt) (v0 v1 : Value) (w : World) (ha : RdS ASd.rep w va t.ases) (hk : RdS Lnk.rep w vk t.links) (r0 : RdS Part.rep w v0 x.path.parts) (r1 : RdS Rep.byte w v1 x.pay) (hl : x.size ≤ 1048576) :
    Calls Tryz.prog 29 #[.agg #[va, vk], .int .i64 r, .int .i64 now, .int .i64 dead, .int .i64 inn, .agg #[.int .i64 x.kind, .int .i64 x.src, .int .i64 x.dst, v0, .int .i64 x.pi, .int .i64 x.hi, .int .i64 x.beta, .int .i64 x.rid, .int .i64 x.seq, v1]] w fun e w' => ∃ u0 u1, e = .returned (.agg #[.int .i64 (forward t r now dead inn x).code, .int .i64 (forward t r now dead inn x).eg, .int .i64 (forward t r now dead inn x).pkt.kind, .int .i64 (forward t r now dead inn x).pkt.src, .int .i64 (forward t r now dead inn x).pkt.dst, u0, .int .i64 (forward t r now dead inn x).pkt.pi, .int .i64 (forward t r now dead inn x).pkt.hi, .int .i64 (forward t r now dead inn x).pkt.beta, .int .i64 (forward t r now dead inn x).pkt.rid, .int .i64 (forward t r now dead inn x).pkt.seq, u1]) ∧ Pkt.own (rng w.heap.size w'.heap.size) w' u0 u1 (forward t r now dead inn x).pkt ∧ Ext w w' := by
  obtain ⟨o, cap, rfl, hsm⟩ := r0.shape
  obtain ⟨oy, cy, rfl, hsy⟩ := r1.shape
  have hx0 := ext3 w (.cells #[va, vk] 47) (.cells #[.int .i64 x.kind, .int .i64 x.src, .int .i64 x.dst, .slice o x.path.parts.length cap, .int .i64 x.pi, .int .i64 x.hi, .int .i64 x.beta, .int .i64 x.rid, .int .i64 x.seq, .slice oy x.pay.length cy] 40) (.cells #[.int .i64 0, .int .i64 0, .int .i64 0, .int .i64 0, .int .i64 0, .slice none 0 0, .int .i64 0, .int .i64 0, .int .i64 0, .int .i64 0, .int .i64 0, .slice none 0 0] 66)
  have HB0 := Lib.hid (al3 w (.cells #[va, vk] 47) (.cells #[.int .i64 x.kind, .int .i64 x.src, .int .i64 x.dst, .slice o x.path.parts.length cap, .int .i64 x.pi, .int .i64 x.hi, .int .i64 x.beta, .int .i64 x.rid, .int .i64 x.seq, .slice oy x.pay.length cy] 40) (.cells #[.int .i64 0, .int .i64 0, .int .i64 0, .int .i64 0, .int .i64 0, .slice none 0 0, .int .i64 0, .int .i64 0, .int .i64 0, .int .i64 0, .int .i64 0, .slice none 0 0] 66))
  go_enter Tryz.func29, Tryz.ntmps29
  have cf1 := blk2 HB0.out.1
  have cf2 := blk10 HB0.out.2.1
  have cf3 := blk12 HB0.out.2.2
  go_wp2_with fail
  refine (i_decide t _ _ r now dead inn x _ _ _ (ha.ext hx0) (hk.ext hx0) (r0.ext hx0) (r1.ext hx0) hl).mono ?_
  rintro e w1 ⟨u0, u1, out, rfl, oo, hz1⟩
  generalize hv : (forward t r now dead inn x) = v at *
  have HV := Lib.hid hv; clear hv
  obtain ⟨o1, c1, rfl, _⟩ := (Pkt.own_rd0 oo).shape
  obtain ⟨o2, c2, rfl, _⟩ := (Pkt.own_rd1 oo).shape
  have hs1 : w.heap.size + 1 + 1 + 1 ≤ w1.heap.size := by simpa using hz1.size
  have OO := Lib.hid oo; clear oo
  try clear cf1
  try clear cf2
  try clear cf3
  have cf4 := blk2 (Ext.block hz1 HB0.out.1)
  have cf5 := blk10 (Ext.block hz1 HB0.out.2.1)
  have cf6 := blk12 (Ext.block hz1 HB0.out.2.2)
  have hx1 : Ext w1 (w1.alloc (.cells #[.int .i64 v.code, .int .i64 v.eg, .int .i64 v.pkt.kind, .int .i64 v.pkt.src, .int .i64 v.pkt.dst, (.slice o1 v.pkt.path.parts.length c1), .int .i64 v.pkt.pi, .int .i64 v.pkt.hi, .int .i64 v.pkt.beta, .int .i64 v.pkt.rid, .int .i64 v.pkt.seq, (.slice o2 v.pkt.pay.length c2)] 66)) := (Ext.refl _).alloc _
  have HB1 := Lib.hid (blk_new w1 (.cells #[.int .i64 v.code, .int .i64 v.eg, .int .i64 v.pkt.kind, .int .i64 v.pkt.src, .int .i64 v.pkt.dst, (.slice o1 v.pkt.path.parts.length c1), .int .i64 v.pkt.pi, .int .i64 v.pkt.hi, .int .i64 v.pkt.beta, .int .i64 v.pkt.rid, .int .i64 v.pkt.seq, (.slice o2 v.pkt.pay.length c2)] 66))
  have hsz := hx1.size
  have hso : w1.heap.size < (w1.alloc (.cells #[.int .i64 v.code, .int .i64 v.eg, .int .i64 v.pkt.kind, .int .i64 v.pkt.src, .int .i64 v.pkt.dst, (.slice o1 v.pkt.path.parts.length c1), .int .i64 v.pkt.pi, .int .i64 v.pkt.hi, .int .i64 v.pkt.beta, .int .i64 v.pkt.rid, .int .i64 v.pkt.seq, (.slice o2 v.pkt.pay.length c2)] 66)).heap.size := blk_lt HB1.out
  have hR := Ext.block (hz1.trans hx1) HB0.out.2.2
  obtain ⟨wc, hwc, hrc, hcc, hsc⟩ := vd_set hR (.int .i64 v.code) (.int .i64 v.eg) (.int .i64 v.pkt.kind) (.int .i64 v.pkt.src) (.int .i64 v.pkt.dst) ((.slice o1 v.pkt.path.parts.length c1)) (.int .i64 v.pkt.pi) (.int .i64 v.pkt.hi) (.int .i64 v.pkt.beta) (.int .i64 v.pkt.rid) (.int .i64 v.pkt.seq) ((.slice o2 v.pkt.pay.length c2))
  have HOW := Lib.hid (Pkt.own_kept (Pkt.own_ext OO.out hx1) hcc (fun b hb e => by have h1 := hb.1; have h2 := hb.2; simp at h1; omega))
  have HXX := Lib.hid (((hx0.trans hz1).trans hx1).chg1 hcc (by omega))
  have HWC := Lib.hid hwc
  have HRC := Lib.hid hrc
  have hsz2 : (w1.alloc (.cells #[.int .i64 v.code, .int .i64 v.eg, .int .i64 v.pkt.kind, .int .i64 v.pkt.src, .int .i64 v.pkt.dst, (.slice o1 v.pkt.path.parts.length c1), .int .i64 v.pkt.pi, .int .i64 v.pkt.hi, .int .i64 v.pkt.beta, .int .i64 v.pkt.rid, .int .i64 v.pkt.seq, (.slice o2 v.pkt.pay.length c2)] 66)).heap.size = wc.heap.size := by rw [hsc]
  have hRF := fun o => fr_of hR o
  have gr0 := hRF 0
  have gr1 := hRF 1
  have gr2 := hRF 2
  have gr3 := hRF 3
  have gr4 := hRF 4
  have gr5 := hRF 5
  have gr6 := hRF 6
  have gr7 := hRF 7
  have gr8 := hRF 8
  have gr9 := hRF 9
  have gr10 := hRF 10
  have gr11 := hRF 11
  clear hRF hR  hwc hrc hcc hsc
  have cf7 := blk2 (Ext.block (hz1.trans hx1) HB0.out.1)
  have cf8 := blk10 (Ext.block (hz1.trans hx1) HB0.out.2.1)
  have cf9 := blk12 (Ext.block (hz1.trans hx1) HB0.out.2.2)
  have cf10 := blk12 HB1.out
  go_wp2_with fail
  rw [← HWC.out]
  clear gr0 gr1 gr2 gr3 gr4 gr5 gr6 gr7 gr8 gr9 gr10 gr11 cf7 cf8 cf9 cf10
  have cc := blk12 HRC.out
  refine bodyPost_ret (v := .agg #[.int .i64 v.code, .int .i64 v.eg, .int .i64 v.pkt.kind, .int .i64 v.pkt.src, .int .i64 v.pkt.dst, (.slice o1 v.pkt.path.parts.length c1), .int .i64 v.pkt.pi, .int .i64 v.pkt.hi, .int .i64 v.pkt.beta, .int .i64 v.pkt.rid, .int .i64 v.pkt.seq, (.slice o2 v.pkt.pay.length c2)]) (by simp [results, Tryz.results29, go_sem, cc]) rfl ?_
  rw [HV.out]
  exact ⟨_, _, rfl, Pkt.own_mono HOW.out (fun b hb => ⟨by have h1 := hb.1; simp at h1; omega, by have h2 := hb.2; omega⟩), HXX.out⟩


theorem fw_adv_pay (x : Pkt) : (advance x).pay = x.pay := by unfold advance; split; rfl; split <;> rfl
theorem fw_ver_pay (t : Topo) (x : Pkt) : (verCur t x).pay = x.pay := by unfold verCur; split <;> rfl
theorem fw_chkAll (t : Topo) (now : Int) : ∀ (f : Nat) (x : Pkt), (chkAll t now f x).2.path = x.path ∧ (chkAll t now f x).2.pay = x.pay
  | 0, x => ⟨verCur_path t x, fw_ver_pay t x⟩
  | f + 1, x => by
    unfold chkAll
    split
    · have h := fw_chkAll t now f (advance (verCur t x))
      rw [h.1, h.2, adv_path, fw_adv_pay]; exact ⟨verCur_path t x, fw_ver_pay t x⟩
    · exact ⟨verCur_path t x, fw_ver_pay t x⟩
theorem fw_pp (t : Topo) (r now dead inn : Int) (x : Pkt) : (forward t r now dead inn x).pkt.path = x.path ∧ (forward t r now dead inn x).pkt.pay = x.pay := by
  have h := fw_chkAll t now x.path.parts.length x
  unfold forward
  simp only
  repeat' split
  all_goals first | exact ⟨rfl, rfl⟩ | exact h | exact ⟨(adv_path _).trans h.1, (fw_adv_pay _).trans h.2⟩
theorem fw_size (t : Topo) (r now dead inn : Int) (x : Pkt) : (forward t r now dead inn x).pkt.size = x.size := by
  have h := fw_pp t r now dead inn x
  unfold Pkt.size; rw [h.1, h.2]
theorem fw_chk_nn (t : Topo) (now : Int) (x : Pkt) : 0 ≤ chkCode t now x := by unfold chkCode; split; split; all_goals omega
theorem fw_all_nn (t : Topo) (now : Int) : ∀ (f : Nat) (x : Pkt), 0 ≤ (chkAll t now f x).1
  | 0, x => fw_chk_nn t now x
  | f + 1, x => by
    unfold chkAll
    split
    · exact fw_all_nn t now f _
    · exact fw_chk_nn t now x
theorem fw_nn (t : Topo) (r now dead inn : Int) (x : Pkt) : 0 ≤ (forward t r now dead inn x).code := by
  have h := fw_all_nn t now x.path.parts.length x
  unfold forward
  simp only
  repeat' split
  all_goals first | exact h | (dsimp only; omega)

def trav (t : Topo) (now : Int) (dead : List Int) : Nat → Int → Int → Pkt → List Step → Trc
  | 0, _, _, x, l => ⟨0, l, x⟩
  | f + 1, r, inn, x, l =>
    if (forward t r now (failedIfs t dead r) inn x).code = 0 then trav t now dead f (remEnd t r (forward t r now (failedIfs t dead r) inn x).eg).1 (remEnd t r (forward t r now (failedIfs t dead r) inn x).eg).2 (forward t r now (failedIfs t dead r) inn x).pkt (l ++ [⟨r, inn, (forward t r now (failedIfs t dead r) inn x).eg⟩])
    else if (forward t r now (failedIfs t dead r) inn x).code = 1 then ⟨1, l ++ [⟨r, inn, (forward t r now (failedIfs t dead r) inn x).eg⟩], (forward t r now (failedIfs t dead r) inn x).pkt⟩
    else ⟨(forward t r now (failedIfs t dead r) inn x).code, l, (forward t r now (failedIfs t dead r) inn x).pkt⟩
def traverse (t : Topo) (now : Int) (dead : List Int) (x : Pkt) : Trc := trav t now dead 30 x.src 0 x []
theorem trav_go {t : Topo} {now : Int} {dead : List Int} {f : Nat} {r inn eg : Int} {x z : Pkt} {l : List Step} (hv : forward t r now (failedIfs t dead r) inn x = ⟨0, eg, z⟩) :
    trav t now dead (f + 1) r inn x l = trav t now dead f (remEnd t r eg).1 (remEnd t r eg).2 z (l ++ [⟨r, inn, eg⟩]) := by simp [trav, hv]
theorem trav_del {t : Topo} {now : Int} {dead : List Int} {f : Nat} {r inn eg : Int} {x z : Pkt} {l : List Step} (hv : forward t r now (failedIfs t dead r) inn x = ⟨1, eg, z⟩) :
    trav t now dead (f + 1) r inn x l = ⟨1, l ++ [⟨r, inn, eg⟩], z⟩ := by simp [trav, hv]
theorem trav_bad {t : Topo} {now : Int} {dead : List Int} {f : Nat} {r inn cd eg : Int} {x z : Pkt} {l : List Step} (hv : forward t r now (failedIfs t dead r) inn x = ⟨cd, eg, z⟩) (h0 : ¬ cd = 0) (h1 : ¬ cd = 1) :
    trav t now dead (f + 1) r inn x l = ⟨cd, l, z⟩ := by simp [trav, hv, h0, h1]
/-- The block of the trace under way. -/
def TSt (lo lo1 g : Nat) (code : Int) (l : List Step) (x : Pkt) (w : World) : Prop :=
  ∃ (os : Option Addr) (cs : Nat) (o0 : Option Addr) (n0 c0 : Nat) (o1 : Option Addr) (n1 c1 : Nat) (S : Nat → Prop), w.heap[g]? = some (.cells #[.int .i64 code, .slice os l.length cs, .int .i64 x.kind, .int .i64 x.src, .int .i64 x.dst, .slice o0 n0 c0, .int .i64 x.pi, .int .i64 x.hi, .int .i64 x.beta, .int .i64 x.rid, .int .i64 x.seq, .slice o1 n1 c1] 42) ∧
    OwnF Step.f 3 lo1 85 w (.slice os l.length cs) l ∧ Pkt.own S w (.slice o0 n0 c0) (.slice o1 n1 c1) x ∧ ∀ b, S b → lo ≤ b ∧ b < w.heap.size ∧ b ≠ g ∧ (Value.slice os l.length cs).ownBlock ≠ some b
/-- The block of a verdict. -/
def VSt (lo g : Nat) (cd eg : Int) (x : Pkt) (w : World) : Prop :=
  ∃ (o0 : Option Addr) (n0 c0 : Nat) (o1 : Option Addr) (n1 c1 : Nat) (S : Nat → Prop), w.heap[g]? = some (.cells #[.int .i64 cd, .int .i64 eg, .int .i64 x.kind, .int .i64 x.src, .int .i64 x.dst, .slice o0 n0 c0, .int .i64 x.pi, .int .i64 x.hi, .int .i64 x.beta, .int .i64 x.rid, .int .i64 x.seq, .slice o1 n1 c1] 66) ∧ Pkt.own S w (.slice o0 n0 c0) (.slice o1 n1 c1) x ∧ ∀ b, S b → lo ≤ b ∧ b < w.heap.size ∧ b ≠ g
theorem Trc.own_of {lo : Nat} {S : Nat → Prop} {w : World} {h0 h1 h2 : Value} {cd : Int} {l : List Step} {z : Pkt} {lo1 : Nat} (a : OwnF Step.f 3 lo1 85 w h0 l) (b : Pkt.own S w h1 h2 z) (hlo : lo ≤ lo1) (hS : ∀ b, S b → lo ≤ b ∧ b < w.heap.size ∧ h0.ownBlock ≠ some b) : Trc.own (rng lo w.heap.size) w h0 h1 h2 ⟨cd, l, z⟩ :=
  ⟨fun b => h0.ownBlock = some b, S, ⟨a.to0, fun _ h => h⟩, b, fun b hb => ⟨Nat.le_trans hlo (a.block b hb).1, (a.block b hb).2⟩, fun b hb => ⟨(hS b hb).1, (hS b hb).2.1⟩, fun b hb h2 => (hS b h2).2.2 hb⟩

/-- A code and a packet are stored in a trace's block. -/
theorem tr_set {w : World} {b : Nat} {x0 x1 x2 x3 x4 x5 x6 x7 x8 x9 x10 x11 : Value} {t : TypeId} (h : w.heap[b]? = some (.cells #[x0, x1, x2, x3, x4, x5, x6, x7, x8, x9, x10, x11] t (0, 0))) (y0 y2 y3 y4 y5 y6 y7 y8 y9 y10 y11 : Value) :
    ∃ w5, w5 = (((((((((((w.setCell ⟨b, 0, none⟩ y0).setCell ⟨b, 2, none⟩ y2).setCell ⟨b, 3, none⟩ y3).setCell ⟨b, 4, none⟩ y4).setCell ⟨b, 5, none⟩ y5).setCell ⟨b, 6, none⟩ y6).setCell ⟨b, 7, none⟩ y7).setCell ⟨b, 8, none⟩ y8).setCell ⟨b, 9, none⟩ y9).setCell ⟨b, 10, none⟩ y10).setCell ⟨b, 11, none⟩ y11) ∧ w5.heap[b]? = some (.cells #[y0, x1, y2, y3, y4, y5, y6, y7, y8, y9, y10, y11] t (0, 0)) ∧ Chg (fun i => i = b) w w5 ∧ w5.heap.size = w.heap.size := by
  refine ⟨_, rfl, by simpa using (blk_set (blk_set (blk_set (blk_set (blk_set (blk_set (blk_set (blk_set (blk_set (blk_set (blk_set h 0 y0) 2 y2) 3 y3) 4 y4) 5 y5) 6 y6) 7 y7) 8 y8) 9 y9) 10 y10) 11 y11), ?_, by simp⟩
  have q (o : Nat) (u : Value) {wq : World} (h : Chg (fun i => i = b) w wq) := Chg.setCell (p := ⟨b, o, none⟩) h rfl u
  exact q _ _ (q _ _ (q _ _ (q _ _ (q _ _ (q _ _ (q _ _ (q _ _ (q _ _ (q _ _ (q _ _ (Chg.refl _ w)))))))))))

set_option maxRecDepth 100000 in
set_option maxHeartbeats 40000000 in
theorem i_Traverse (t : Topo) (va vk : Value) (now : Int) (dead : List Int) (vd : Value) (x : Pkt) (v0 v1 : Value) (w : World) (ha : RdS ASd.rep w va t.ases) (hk : RdS Lnk.rep w vk t.links) (hd : RdS Rep.int w vd dead) (r0 : RdS Part.rep w v0 x.path.parts) (r1 : RdS Rep.byte w v1 x.pay) (ht : t.size ≤ 1048576) (hl : x.size ≤ 1048576) :
    Calls Tryz.prog 13 #[.agg #[va, vk], .int .i64 now, vd, .agg #[.int .i64 x.kind, .int .i64 x.src, .int .i64 x.dst, v0, .int .i64 x.pi, .int .i64 x.hi, .int .i64 x.beta, .int .i64 x.rid, .int .i64 x.seq, v1]] w fun e w' => ∃ u0 u1 u2, e = .returned (.agg #[.int .i64 (traverse t now dead x).code, u0, .int .i64 (traverse t now dead x).pkt.kind, .int .i64 (traverse t now dead x).pkt.src, .int .i64 (traverse t now dead x).pkt.dst, u1, .int .i64 (traverse t now dead x).pkt.pi, .int .i64 (traverse t now dead x).pkt.hi, .int .i64 (traverse t now dead x).pkt.beta, .int .i64 (traverse t now dead x).pkt.rid, .int .i64 (traverse t now dead x).pkt.seq, u2]) ∧ Trc.own (rng w.heap.size w'.heap.size) w' u0 u1 u2 (traverse t now dead x) ∧ Ext w w' := by
  obtain ⟨o, cap, rfl, hsm⟩ := r0.shape
  obtain ⟨oy, cy, rfl, hsy⟩ := r1.shape
  obtain ⟨od, cdd, rfl, _⟩ := hd.shape
  obtain ⟨E⟩ := elemStep
  have hx0 := ext3 w (.cells #[va, vk] 47) (.cells #[.int .i64 x.kind, .int .i64 x.src, .int .i64 x.dst, .slice o x.path.parts.length cap, .int .i64 x.pi, .int .i64 x.hi, .int .i64 x.beta, .int .i64 x.rid, .int .i64 x.seq, .slice oy x.pay.length cy] 40) (.cells #[.int .i64 0, .slice none 0 0, .int .i64 0, .int .i64 0, .int .i64 0, .slice none 0 0, .int .i64 0, .int .i64 0, .int .i64 0, .int .i64 0, .int .i64 0, .slice none 0 0] 42)
  have HB0 := Lib.hid (al3 w (.cells #[va, vk] 47) (.cells #[.int .i64 x.kind, .int .i64 x.src, .int .i64 x.dst, .slice o x.path.parts.length cap, .int .i64 x.pi, .int .i64 x.hi, .int .i64 x.beta, .int .i64 x.rid, .int .i64 x.seq, .slice oy x.pay.length cy] 40) (.cells #[.int .i64 0, .slice none 0 0, .int .i64 0, .int .i64 0, .int .i64 0, .slice none 0 0, .int .i64 0, .int .i64 0, .int .i64 0, .int .i64 0, .int .i64 0, .slice none 0 0] 42))
  go_enter Tryz.func13, Tryz.ntmps13
  have cf1 := blk2 HB0.out.1
  have cf2 := blk10 HB0.out.2.1
  have cf3 := blk12 HB0.out.2.2
  go_wp2_with fail
  refine (i_copyPacket x _ _ _ (r0.ext hx0) (r1.ext hx0) hl).mono ?_
  rintro e w1 ⟨u0, u1, rfl, ou, hz1⟩
  obtain ⟨p0, d0, rfl, _⟩ := (Pkt.own_rd0 ou).shape
  obtain ⟨p1, d1, rfl, _⟩ := (Pkt.own_rd1 ou).shape
  have hs1 : (w.heap.size + 1 + 1 + 1) ≤ w1.heap.size := by simpa using hz1.size
  obtain ⟨g, hgw⟩ : ∃ g : Nat, g = w1.heap.size := ⟨_, rfl⟩
  have hxc := (Ext.refl w1).alloc (.cells #[.int .i64 0, .slice none 0 0, .int .i64 x.kind, .int .i64 x.src, .int .i64 x.dst, .slice p0 x.path.parts.length d0, .int .i64 x.pi, .int .i64 x.hi, .int .i64 x.beta, .int .i64 x.rid, .int .i64 x.seq, .slice p1 x.pay.length d1] 42)
  have hge : w1.heap.size ≤ g := by rw [hgw]; exact Nat.le_refl _
  have HST0 : Hid (TSt (w.heap.size + 1 + 1 + 1) w1.heap.size g 0 [] x (w1.alloc (.cells #[.int .i64 0, .slice none 0 0, .int .i64 x.kind, .int .i64 x.src, .int .i64 x.dst, .slice p0 x.path.parts.length d0, .int .i64 x.pi, .int .i64 x.hi, .int .i64 x.beta, .int .i64 x.rid, .int .i64 x.seq, .slice p1 x.pay.length d1] 42))) := by
    rw [hgw]
    exact Lib.hid ⟨none, 0, _, _, _, _, _, _, _, blk_new _ _, OwnF.nil _ _ _ _ _, Pkt.own_ext ou ((Ext.refl _).alloc _), fun b hb => ⟨by have h1 := hb.1; simp at h1; omega, Nat.lt_of_lt_of_le hb.2 ((Ext.refl _).alloc _).size, (fun e => by rw [e] at hb; exact absurd hb.2 (Nat.lt_irrefl _)), by simp [Value.ownBlock]⟩⟩
  clear ou
  try clear cf1
  try clear cf2
  try clear cf3
  have cf4 := blk2 (Ext.block hz1 HB0.out.1)
  have cf5 := blk10 (Ext.block hz1 HB0.out.2.1)
  have cf6 := blk12 (Ext.block hz1 HB0.out.2.2)
  go_wp2_with fail
  rw [← hgw]
  clear hgw
  try clear cf4
  try clear cf5
  try clear cf6
  go_loopg [9, 10, 12] 30 (fun gk ar ai ak wr => ∃ (rv iv : Int) (k : Nat) (y : Pkt) (l : List Step), ar = .int .i64 rv ∧ ai = .int .i64 iv ∧ ak = .int .i64 k ∧ gk + k = 31 ∧ 1 ≤ k ∧ k ≤ 30 ∧ Hid (trav t now dead gk rv iv y l = (traverse t now dead x)) ∧ Hid (y.size = x.size) ∧ l.length ≤ k ∧ TSt (w.heap.size + 1 + 1 + 1) w1.heap.size g 0 l y wr ∧ Ext w1 wr)
  case atStart => exact ⟨x.src, 0, 1, x, [], rfl, rfl, rfl, rfl, by omega, by omega, Lib.hid rfl, Lib.hid rfl, Nat.zero_le _, HST0.out, hxc⟩
  case round =>
    clear HST0 hxc
    obtain ⟨rv, iv, k, y, l, rfl, rfl, rfl, hn0, hn1, hn2, HTR, HYS, hll, hst, hx⟩ := hrel
    obtain ⟨os, cs, o0, n0, c0, o1, n1, c1, S0, hg, hos, hown, hS⟩ := hst
    have HGB := Lib.hid hg; clear hg
    have hly : y.size ≤ 1048576 := by rw [HYS.out]; exact hl
    obtain ⟨f0, hf0⟩ : ∃ f0, gk = f0 + 1 := ⟨gk - 1, by omega⟩
    have HF := Lib.hid hf0; clear hf0
    have rz0 := Pkt.own_rd0 hown
    have rz1 := Pkt.own_rd1 hown
    obtain ⟨v, hv⟩ : ∃ v, forward t rv now (failedIfs t dead rv) iv y = v := ⟨_, rfl⟩
    obtain ⟨cd, eg, z⟩ := v
    have HV := Lib.hid hv
    have HCD : Hid ((forward t rv now (failedIfs t dead rv) iv y).code = cd) := Lib.hid (by rw [hv])
    have HEG : Hid ((forward t rv now (failedIfs t dead rv) iv y).eg = eg) := Lib.hid (by rw [hv])
    have HZ : Hid ((forward t rv now (failedIfs t dead rv) iv y).pkt = z) := Lib.hid (by rw [hv])
    have HZS : Hid (z.size = x.size) := Lib.hid (by rw [← HZ.out, fw_size]; exact HYS.out)
    have HNN : Hid (0 ≤ cd) := Lib.hid (by rw [← HCD.out]; exact fw_nn _ _ _ _ _ _)
    clear hv
    have cf7 := blk2 (Ext.block (hz1.trans hx) HB0.out.1)
    have cf8 := blk10 (Ext.block (hz1.trans hx) HB0.out.2.1)
    have cf9 := blk12 (Ext.block (hz1.trans hx) HB0.out.2.2)
    have cf10 := blk12 HGB.out
    go_upto_region 5 with (fail)
    go_cut [13] (fun v13 wx => ∃ gv : Nat, v13 = .pointer (some ⟨gv, 0, none⟩) ∧ VSt wr.heap.size gv cd eg z wx ∧ wr.heap.size ≤ gv ∧ Ext wr wx)
    case first =>
      refine planStep (.blk [0, 1, 2, 3, 4, 5, 7, 8, 9] (.two 6 11 (.two 10 11 (.one 11 (.one 12 .done)) (.one 10 (.one 12 .done))) (.one 6 (.one 10 (.one 12 .done))))) [12] (by kernel_rfl) (by kernel_rfl) ?_
      refine blkStep (fun K HK => ?_)
      simp only [pick, List.filterMap_cons, List.filterMap_nil, List.getElem?_toArray, List.getElem?_cons_zero, List.getElem?_cons_succ]
      go_wp2_with fail
      refine HK.out _ _ ?_
      clear HK K
      refine twoStep ?_ ?_
      · refine oneStep (fun K HK => ?_)
        simp only [pick, List.filterMap_cons, List.filterMap_nil, List.getElem?_toArray, List.getElem?_cons_zero, List.getElem?_cons_succ]
        go_wp2_with fail
        refine (i_FailedInterfaces t _ _ dead _ rv _ (ha.ext (((hx0.trans hz1).trans hx).trans (Ext.refl _).drew)) (hk.ext (((hx0.trans hz1).trans hx).trans (Ext.refl _).drew)) (hd.ext (((hx0.trans hz1).trans hx).trans (Ext.refl _).drew)) ht).mono ?_
        rintro e wk0 ⟨rfl, hk0⟩
        have hcc1 := blk2 (Ext.block ((hz1.trans hx).trans ((Ext.refl _).drew.trans hk0)) HB0.out.1)
        have hcc2 := blk10 (Ext.block ((hz1.trans hx).trans ((Ext.refl _).drew.trans hk0)) HB0.out.2.1)
        have hcc3 := blk12 (Ext.block ((hz1.trans hx).trans ((Ext.refl _).drew.trans hk0)) HB0.out.2.2)
        have hcc4 := blk12 (Ext.block ((Ext.refl _).trans ((Ext.refl _).drew.trans hk0)) HGB.out)
        go_wp2_with fail
        refine HK.out _ _ hk0 ?_
        clear HK K
        refine twoStep ?_ ?_
        · refine oneStep (fun K HK => ?_)
          simp only [pick, List.filterMap_cons, List.filterMap_nil, List.getElem?_toArray, List.getElem?_cons_zero, List.getElem?_cons_succ]
          go_wp2_with fail
          refine (i_Forward t _ _ rv now (failedIfs t dead rv) iv y _ _ _ (ha.ext (((hx0.trans hz1).trans hx).trans ((Ext.refl _).drew.trans hk0))) (hk.ext (((hx0.trans hz1).trans hx).trans ((Ext.refl _).drew.trans hk0))) (rz0.ext ((Ext.refl _).drew.trans hk0)) (rz1.ext ((Ext.refl _).drew.trans hk0)) hly).mono ?_
          rintro e wk1 ⟨u0, u1, rfl, ou, hk1⟩
          rw [HCD.out, HEG.out, HZ.out]
          rw [HZ.out] at ou
          obtain ⟨p0, d0, rfl, _⟩ := (Pkt.own_rd0 ou).shape
          obtain ⟨p1, d1, rfl, _⟩ := (Pkt.own_rd1 ou).shape
          have hcc5 := blk2 (Ext.block ((hz1.trans hx).trans (((Ext.refl _).drew.trans hk0).trans hk1)) HB0.out.1)
          have hcc6 := blk10 (Ext.block ((hz1.trans hx).trans (((Ext.refl _).drew.trans hk0).trans hk1)) HB0.out.2.1)
          have hcc7 := blk12 (Ext.block ((hz1.trans hx).trans (((Ext.refl _).drew.trans hk0).trans hk1)) HB0.out.2.2)
          have hcc8 := blk12 (Ext.block ((Ext.refl _).trans (((Ext.refl _).drew.trans hk0).trans hk1)) HGB.out)
          go_wp2_with fail
          refine HK.out _ _ hk1 ?_
          clear HK K
          refine oneStep (fun K HK => ?_)
          simp only [pick, List.filterMap_cons, List.filterMap_nil, List.getElem?_toArray, List.getElem?_cons_zero, List.getElem?_cons_succ]
          go_wp2_with fail
          refine HK.out _ _ ((Ext.refl _).alloc _) ?_
          clear HK K
          refine badStep (by kernel_rfl) (fun K HK => ?_)
          simp only [pick, List.filterMap_cons, List.filterMap_nil, List.getElem?_toArray, List.getElem?_cons_zero, List.getElem?_cons_succ]
          go_wp2_with fail
          refine HK.out _ _ ?_
          clear HK K
          refine doneStep (by kernel_rfl) ?_
          go_wp2_with fail
          go_meet
          exact ⟨_, rfl, ⟨p0, _, d0, p1, _, d1, _, blk_new _ _, Pkt.own_ext ou ((Ext.refl _).alloc _), fun b hb => ⟨Nat.le_trans ((Ext.refl _).drew.trans hk0).size hb.1, Nat.lt_of_lt_of_le hb.2 ((Ext.refl _).alloc _).size, fun e => by rw [e] at hb; exact absurd hb.2 (Nat.lt_irrefl _)⟩⟩, (((Ext.refl _).drew.trans hk0).trans hk1).size, (((Ext.refl _).drew.trans hk0).trans hk1).alloc _⟩
        · have hba := blk_new wk0 (.cells #[.int .i64 0, .int .i64 0, .int .i64 0, .int .i64 0, .int .i64 0, .slice none 0 0, .int .i64 0, .int .i64 0, .int .i64 0, .int .i64 0, .int .i64 0, .slice none 0 0] 66)
          have HBA := Lib.hid hba; clear hba
          refine oneStep (fun K HK => ?_)
          simp only [pick, List.filterMap_cons, List.filterMap_nil, List.getElem?_toArray, List.getElem?_cons_zero, List.getElem?_cons_succ]
          go_wp2_with fail
          refine HK.out _ _ ((Ext.refl _).alloc _) ?_
          clear HK K
          refine oneStep (fun K HK => ?_)
          simp only [pick, List.filterMap_cons, List.filterMap_nil, List.getElem?_toArray, List.getElem?_cons_zero, List.getElem?_cons_succ]
          go_wp2_with fail
          refine (i_Forward t _ _ rv now (failedIfs t dead rv) iv y _ _ _ (ha.ext (((hx0.trans hz1).trans hx).trans (((Ext.refl _).drew.trans hk0).trans ((Ext.refl _).alloc _)))) (hk.ext (((hx0.trans hz1).trans hx).trans (((Ext.refl _).drew.trans hk0).trans ((Ext.refl _).alloc _)))) (rz0.ext (((Ext.refl _).drew.trans hk0).trans ((Ext.refl _).alloc _))) (rz1.ext (((Ext.refl _).drew.trans hk0).trans ((Ext.refl _).alloc _))) hly).mono ?_
          rintro e wk1 ⟨u0, u1, rfl, ou, hk1⟩
          rw [HCD.out, HEG.out, HZ.out]
          rw [HZ.out] at ou
          obtain ⟨p0, d0, rfl, _⟩ := (Pkt.own_rd0 ou).shape
          obtain ⟨p1, d1, rfl, _⟩ := (Pkt.own_rd1 ou).shape
          have hcc9 := blk2 (Ext.block ((hz1.trans hx).trans ((((Ext.refl _).drew.trans hk0).trans ((Ext.refl _).alloc _)).trans hk1)) HB0.out.1)
          have hcc10 := blk10 (Ext.block ((hz1.trans hx).trans ((((Ext.refl _).drew.trans hk0).trans ((Ext.refl _).alloc _)).trans hk1)) HB0.out.2.1)
          have hcc11 := blk12 (Ext.block ((hz1.trans hx).trans ((((Ext.refl _).drew.trans hk0).trans ((Ext.refl _).alloc _)).trans hk1)) HB0.out.2.2)
          have hcc12 := blk12 (Ext.block ((Ext.refl _).trans ((((Ext.refl _).drew.trans hk0).trans ((Ext.refl _).alloc _)).trans hk1)) HGB.out)
          go_wp2_with fail
          refine HK.out _ _ hk1 ?_
          clear HK K
          have hbs := Ext.block hk1 HBA.out
          have hcs := blk12 hbs
          have hfs0 := fr_of hbs 0
          have hfs1 := fr_of hbs 1
          have hfs2 := fr_of hbs 2
          have hfs3 := fr_of hbs 3
          have hfs4 := fr_of hbs 4
          have hfs5 := fr_of hbs 5
          have hfs6 := fr_of hbs 6
          have hfs7 := fr_of hbs 7
          have hfs8 := fr_of hbs 8
          have hfs9 := fr_of hbs 9
          have hfs10 := fr_of hbs 10
          have hfs11 := fr_of hbs 11
          have HBS := Lib.hid hbs; clear hbs
          refine badStep (by kernel_rfl) (fun K HK => ?_)
          simp only [pick, List.filterMap_cons, List.filterMap_nil, List.getElem?_toArray, List.getElem?_cons_zero, List.getElem?_cons_succ]
          go_wp2_with fail
          refine HK.out _ _ ?_
          clear HK K
          refine doneStep (by kernel_rfl) ?_
          go_wp2_with fail
          go_meet
          obtain ⟨wq, hwq, hbq, hcq, hsq⟩ := vd_set HBS.out (.int .i64 cd) (.int .i64 eg) (.int .i64 z.kind) (.int .i64 z.src) (.int .i64 z.dst) ((.slice p0 z.path.parts.length d0)) (.int .i64 z.pi) (.int .i64 z.hi) (.int .i64 z.beta) (.int .i64 z.rid) (.int .i64 z.seq) ((.slice p1 z.pay.length d1))
          rw [← hwq]
          exact ⟨_, rfl, ⟨p0, _, d0, p1, _, d1, _, hbq, Pkt.own_kept (Pkt.own_ext ou (Ext.refl _)) hcq (fun b (hb : rng _ _ b) (e : b = _) => absurd hb.1 (by rw [e]; exact Nat.not_le.2 (Nat.lt_of_lt_of_le (blk_lt HBA.out) (Ext.refl _).size))), fun b hb => ⟨Nat.le_trans (((Ext.refl _).drew.trans hk0).trans ((Ext.refl _).alloc _)).size hb.1, by rw [hsq]; exact Nat.lt_of_lt_of_le hb.2 (Ext.refl _).size, (fun b (hb : rng _ _ b) (e : b = _) => absurd hb.1 (by rw [e]; exact Nat.not_le.2 (Nat.lt_of_lt_of_le (blk_lt HBA.out) (Ext.refl _).size))) b hb⟩⟩, ((Ext.refl _).drew.trans hk0).size, ((((Ext.refl _).drew.trans hk0).trans ((Ext.refl _).alloc _)).trans hk1).chg1 hcq ((Ext.refl _).drew.trans hk0).size⟩
      · have hba := blk_new wr (.cells #[.int .i64 0, .int .i64 0, .int .i64 0, .int .i64 0, .int .i64 0, .slice none 0 0, .int .i64 0, .int .i64 0, .int .i64 0, .int .i64 0, .int .i64 0, .slice none 0 0] 66)
        have HBA := Lib.hid hba; clear hba
        refine oneStep (fun K HK => ?_)
        simp only [pick, List.filterMap_cons, List.filterMap_nil, List.getElem?_toArray, List.getElem?_cons_zero, List.getElem?_cons_succ]
        go_wp2_with fail
        refine HK.out _ _ ((Ext.refl _).alloc _) ?_
        clear HK K
        refine oneStep (fun K HK => ?_)
        simp only [pick, List.filterMap_cons, List.filterMap_nil, List.getElem?_toArray, List.getElem?_cons_zero, List.getElem?_cons_succ]
        go_wp2_with fail
        refine (i_FailedInterfaces t _ _ dead _ rv _ (ha.ext (((hx0.trans hz1).trans hx).trans ((Ext.refl _).drew.trans ((Ext.refl _).alloc _)))) (hk.ext (((hx0.trans hz1).trans hx).trans ((Ext.refl _).drew.trans ((Ext.refl _).alloc _)))) (hd.ext (((hx0.trans hz1).trans hx).trans ((Ext.refl _).drew.trans ((Ext.refl _).alloc _)))) ht).mono ?_
        rintro e wk0 ⟨rfl, hk0⟩
        have hcc13 := blk2 (Ext.block ((hz1.trans hx).trans (((Ext.refl _).drew.trans ((Ext.refl _).alloc _)).trans hk0)) HB0.out.1)
        have hcc14 := blk10 (Ext.block ((hz1.trans hx).trans (((Ext.refl _).drew.trans ((Ext.refl _).alloc _)).trans hk0)) HB0.out.2.1)
        have hcc15 := blk12 (Ext.block ((hz1.trans hx).trans (((Ext.refl _).drew.trans ((Ext.refl _).alloc _)).trans hk0)) HB0.out.2.2)
        have hcc16 := blk12 (Ext.block ((Ext.refl _).trans (((Ext.refl _).drew.trans ((Ext.refl _).alloc _)).trans hk0)) HGB.out)
        go_wp2_with fail
        refine HK.out _ _ hk0 ?_
        clear HK K
        refine oneStep (fun K HK => ?_)
        simp only [pick, List.filterMap_cons, List.filterMap_nil, List.getElem?_toArray, List.getElem?_cons_zero, List.getElem?_cons_succ]
        go_wp2_with fail
        refine (i_Forward t _ _ rv now (failedIfs t dead rv) iv y _ _ _ (ha.ext (((hx0.trans hz1).trans hx).trans (((Ext.refl _).drew.trans ((Ext.refl _).alloc _)).trans hk0))) (hk.ext (((hx0.trans hz1).trans hx).trans (((Ext.refl _).drew.trans ((Ext.refl _).alloc _)).trans hk0))) (rz0.ext (((Ext.refl _).drew.trans ((Ext.refl _).alloc _)).trans hk0)) (rz1.ext (((Ext.refl _).drew.trans ((Ext.refl _).alloc _)).trans hk0)) hly).mono ?_
        rintro e wk1 ⟨u0, u1, rfl, ou, hk1⟩
        rw [HCD.out, HEG.out, HZ.out]
        rw [HZ.out] at ou
        obtain ⟨p0, d0, rfl, _⟩ := (Pkt.own_rd0 ou).shape
        obtain ⟨p1, d1, rfl, _⟩ := (Pkt.own_rd1 ou).shape
        have hcc17 := blk2 (Ext.block ((hz1.trans hx).trans ((((Ext.refl _).drew.trans ((Ext.refl _).alloc _)).trans hk0).trans hk1)) HB0.out.1)
        have hcc18 := blk10 (Ext.block ((hz1.trans hx).trans ((((Ext.refl _).drew.trans ((Ext.refl _).alloc _)).trans hk0).trans hk1)) HB0.out.2.1)
        have hcc19 := blk12 (Ext.block ((hz1.trans hx).trans ((((Ext.refl _).drew.trans ((Ext.refl _).alloc _)).trans hk0).trans hk1)) HB0.out.2.2)
        have hcc20 := blk12 (Ext.block ((Ext.refl _).trans ((((Ext.refl _).drew.trans ((Ext.refl _).alloc _)).trans hk0).trans hk1)) HGB.out)
        go_wp2_with fail
        refine HK.out _ _ hk1 ?_
        clear HK K
        have hbs := Ext.block (hk0.trans hk1) HBA.out
        have hcs := blk12 hbs
        have hfs0 := fr_of hbs 0
        have hfs1 := fr_of hbs 1
        have hfs2 := fr_of hbs 2
        have hfs3 := fr_of hbs 3
        have hfs4 := fr_of hbs 4
        have hfs5 := fr_of hbs 5
        have hfs6 := fr_of hbs 6
        have hfs7 := fr_of hbs 7
        have hfs8 := fr_of hbs 8
        have hfs9 := fr_of hbs 9
        have hfs10 := fr_of hbs 10
        have hfs11 := fr_of hbs 11
        have HBS := Lib.hid hbs; clear hbs
        refine badStep (by kernel_rfl) (fun K HK => ?_)
        simp only [pick, List.filterMap_cons, List.filterMap_nil, List.getElem?_toArray, List.getElem?_cons_zero, List.getElem?_cons_succ]
        go_wp2_with fail
        refine HK.out _ _ ?_
        clear HK K
        refine doneStep (by kernel_rfl) ?_
        go_wp2_with fail
        go_meet
        obtain ⟨wq, hwq, hbq, hcq, hsq⟩ := vd_set HBS.out (.int .i64 cd) (.int .i64 eg) (.int .i64 z.kind) (.int .i64 z.src) (.int .i64 z.dst) ((.slice p0 z.path.parts.length d0)) (.int .i64 z.pi) (.int .i64 z.hi) (.int .i64 z.beta) (.int .i64 z.rid) (.int .i64 z.seq) ((.slice p1 z.pay.length d1))
        rw [← hwq]
        exact ⟨_, rfl, ⟨p0, _, d0, p1, _, d1, _, hbq, Pkt.own_kept (Pkt.own_ext ou (Ext.refl _)) hcq (fun b (hb : rng _ _ b) (e : b = _) => absurd hb.1 (by rw [e]; exact Nat.not_le.2 (Nat.lt_of_lt_of_le (blk_lt HBA.out) hk0.size))), fun b hb => ⟨Nat.le_trans (((Ext.refl _).drew.trans ((Ext.refl _).alloc _)).trans hk0).size hb.1, by rw [hsq]; exact Nat.lt_of_lt_of_le hb.2 (Ext.refl _).size, (fun b (hb : rng _ _ b) (e : b = _) => absurd hb.1 (by rw [e]; exact Nat.not_le.2 (Nat.lt_of_lt_of_le (blk_lt HBA.out) hk0.size))) b hb⟩⟩, (Ext.refl _).drew.size, ((((Ext.refl _).drew.trans ((Ext.refl _).alloc _)).trans hk0).trans hk1).chg1 hcq (Ext.refl _).drew.size⟩
    case rest =>
      obtain ⟨gv, rfl, ⟨p0, m0, d0, p1, m1, d1, S1, hbv, hov, hSv⟩, hvge, hxv⟩ := hcut
      obtain ⟨wv, hwv⟩ : ∃ wv : World, wv = wc := ⟨_, rfl⟩
      subst hwv
      have hgl : g < wr.heap.size := blk_lt HGB.out
      have hne : gv ≠ g := by omega
      have HBV := Lib.hid hbv; clear hbv
      have hG := Ext.block hxv HGB.out
      obtain ⟨wt, hwt, hbt, hct, hszt⟩ := tr_set hG (.int .i64 cd) (.int .i64 z.kind) (.int .i64 z.src) (.int .i64 z.dst) ((.slice p0 m0 d0)) (.int .i64 z.pi) (.int .i64 z.hi) (.int .i64 z.beta) (.int .i64 z.rid) (.int .i64 z.seq) ((.slice p1 m1 d1))
      have HWT := Lib.hid hwt
      have HBT := Lib.hid hbt
      have HBW := Lib.hid (hct.other HBV.out hne)
      have hos2 := (hos.ext hxv).chg hct (fun kk hkk e => absurd hkk (by rw [e]; exact (hos.ext hxv).ne hG (by decide)))
      have how2 := Pkt.own_kept hov hct (fun b hb e => by have h1 := (hSv b hb).1; omega)
      have hxt := (hx.trans hxv).chg1 hct hge
      have hdis : ∀ b, S1 b → (Value.slice os l.length cs).ownBlock ≠ some b := fun b hb e => by have h1 := (hSv b hb).1; have h2 := (hos.block b e).2; omega
      have hSt : ∀ b, S1 b → (w.heap.size + 1 + 1 + 1) ≤ b ∧ b < wt.heap.size ∧ (Value.slice os l.length cs).ownBlock ≠ some b := fun b hb => ⟨by have h1 := (hSv b hb).1; omega, by have h1 := (hSv b hb).2.1; omega, hdis b hb⟩
      have hfg0 := fr_of hG 0
      have hfg2 := fr_of hG 2
      have hfg3 := fr_of hG 3
      have hfg4 := fr_of hG 4
      have hfg5 := fr_of hG 5
      have hfg6 := fr_of hG 6
      have hfg7 := fr_of hG 7
      have hfg8 := fr_of hG 8
      have hfg9 := fr_of hG 9
      have hfg10 := fr_of hG 10
      have hfg11 := fr_of hG 11
      clear hwt hbt hG hszt
      try clear cf7
      try clear cf8
      try clear cf9
      try clear cf10
      have cf11 := blk2 (Ext.block ((hz1.trans hx).trans hxv) HB0.out.1)
      have cf12 := blk10 (Ext.block ((hz1.trans hx).trans hxv) HB0.out.2.1)
      have cf13 := blk12 (Ext.block ((hz1.trans hx).trans hxv) HB0.out.2.2)
      have cf14 := blk12 (Ext.block hxv HGB.out)
      have cf15 := blk12 HBV.out
      go_upto_region 8 with (fail)
      rw [← HWT.out]
      clear hfg0 hfg2 hfg3 hfg4 hfg5 hfg6 hfg7 hfg8 hfg9 hfg10 hfg11
      clear cf11
      clear cf12
      clear cf13
      clear cf14
      clear cf15
      by_cases k0 : cd = 0
      · subst k0
        have cf16 := blk2 (Ext.block (hz1.trans hxt) HB0.out.1)
        have cf17 := blk10 (Ext.block (hz1.trans hxt) HB0.out.2.1)
        have cf18 := blk12 (Ext.block (hz1.trans hxt) HB0.out.2.2)
        have cf19 := blk12 HBT.out
        have cf20 := blk12 HBW.out
        go_wp2_with (at_builtin; go_loud (refine app1p E Step.flen rfl _ _ rfl (⟨rv, iv, eg⟩ : Step) (Step.one _) rfl (OwnF.ext hos2 ((Ext.refl _).alloc _)) rfl (by exact blk_list (Step.f (⟨rv, iv, eg⟩ : Step)) (blk_new wt _)) (by omega) (by unfold maxLen; omega) (by exact (hxt.alloc _).size) ?_))
        intro v' w' ho' hg' hat
        have hbt1 := own_ne (OwnF.ext hos2 ((Ext.refl _).alloc _)) (Ext.block ((Ext.refl _).alloc _) HBT.out) (by decide) hg'
        have hbw1 := own_ne (OwnF.ext hos2 ((Ext.refl _).alloc _)) (Ext.block ((Ext.refl _).alloc _) HBW.out) (by decide) hg'
        have hx1 := Ext.app (hxt.alloc _) hg' hos2 (Nat.le_refl _)
        have how3 := Pkt.own_kept (Pkt.own_ext how2 ((Ext.refl _).alloc _)) (Chg.ofGrown (S := fun b => (Value.slice os l.length cs).ownBlock = some b) hg' (fun _ h => h)) (fun b hb e => hdis b hb e)
        have hsz3 := hg'.size
        simp only [nblk_alloc] at hsz3
        have hdis3 : ∀ b, S1 b → v'.ownBlock ≠ some b := by
          intro b hb e
          rcases hat with h | h
          · exact hdis b hb (h ▸ e)
          · rw [h] at e
            have h1 := (hSt b hb).2.1
            simp only [Option.some.injEq] at e
            omega
        obtain ⟨on, cn, hve, _⟩ := (OwnF.rd (hf := Step.flen) ho').shape
        rw [show (l ++ [(⟨rv, iv, eg⟩ : Step)]).length = l.length + 1 from by simp] at hve
        subst hve
        clear hat hg'
        obtain ⟨wq, hwq, hbq, hcq, hsq⟩ := cell_set hbt1 1 (.slice on (l.length + 1) cn)
        simp only [List.setIfInBounds_toArray, List.set_cons_succ, List.set_cons_zero] at hbq
        have HWQ := Lib.hid hwq
        have HBQ := Lib.hid hbq
        have HBR := Lib.hid (hcq.other hbw1 hne)
        have hos3 := ho'.chg hcq (fun kk hkk e => absurd hkk (by rw [e]; exact ho'.ne hbt1 (by decide)))
        have how4 := Pkt.own_kept how3 hcq (fun b hb e => by have h1 := (hSv b hb).1; omega)
        have hxq := hx1.chg1 hcq hge
        have hSq : ∀ b, S1 b → (w.heap.size + 1 + 1 + 1) ≤ b ∧ b < wq.heap.size ∧ (Value.slice on (l.length + 1) cn).ownBlock ≠ some b := fun b hb => ⟨(hSt b hb).1, by have h1 := (hSt b hb).2.1; omega, hdis3 b hb⟩
        have fg1 := fr_of hbt1 1
        have ct1 := blk12 hbt1
        have ct2 := blk12 hbw1
        clear hbt1 hbw1 hwq hbq how3 ho' hx1 hsq hsz3
        go_upto_region 11 with (fail)
        rw [← HWQ.out]
        clear fg1 ct1 ct2
        try clear cf16
        try clear cf17
        try clear cf18
        try clear cf19
        try clear cf20
        by_cases k3 : k = 30
        · subst k3
          have HE : Hid ((traverse t now dead x) = ⟨0, (l ++ [(⟨rv, iv, eg⟩ : Step)]), z⟩) := Lib.hid (by
            rw [← HTR.out, HF.out, trav_go HV.out]
            have h0 : f0 = 0 := by have := HF.out; omega
            subst h0; rfl)
          have OT := Lib.hid (Trc.own_of (cd := 0) (lo := (w.heap.size + 1 + 1 + 1)) hos3 how4 hs1 hSq)
          have hR := Ext.block (hz1.trans hxq) HB0.out.2.2
          obtain ⟨wc, hwc, hrc, hcc, hsc⟩ := vd_set hR (.int .i64 0) ((.slice on (l.length + 1) cn)) (.int .i64 z.kind) (.int .i64 z.src) (.int .i64 z.dst) ((.slice p0 m0 d0)) (.int .i64 z.pi) (.int .i64 z.hi) (.int .i64 z.beta) (.int .i64 z.rid) (.int .i64 z.seq) ((.slice p1 m1 d1))
          have HOW := Lib.hid (Trc.own_kept OT.out hcc (fun b hb e => by have h1 := hb.1; omega))
          have HXX := Lib.hid (((hx0.trans hz1).trans hxq).chg1 hcc (by omega))
          have HWC := Lib.hid hwc
          have HRC := Lib.hid hrc
          have hsz2 : wq.heap.size = wc.heap.size := by rw [hsc]
          have hRF := fun o => fr_of hR o
          have gr0 := hRF 0
          have gr1 := hRF 1
          have gr2 := hRF 2
          have gr3 := hRF 3
          have gr4 := hRF 4
          have gr5 := hRF 5
          have gr6 := hRF 6
          have gr7 := hRF 7
          have gr8 := hRF 8
          have gr9 := hRF 9
          have gr10 := hRF 10
          have gr11 := hRF 11
          clear hRF hR  hwc hrc hcc hsc
          have cf21 := blk2 (Ext.block (hz1.trans hxq) HB0.out.1)
          have cf22 := blk10 (Ext.block (hz1.trans hxq) HB0.out.2.1)
          have cf23 := blk12 (Ext.block (hz1.trans hxq) HB0.out.2.2)
          have cf24 := blk12 HBQ.out
          have cf25 := blk12 HBR.out
          go_wp2_with fail
          rw [← HWC.out]
          clear gr0 gr1 gr2 gr3 gr4 gr5 gr6 gr7 gr8 gr9 gr10 gr11 cf21 cf22 cf23 cf24 cf25
          have cc := blk12 HRC.out
          refine bodyPost_ret (v := .agg #[.int .i64 0, (.slice on (l.length + 1) cn), .int .i64 z.kind, .int .i64 z.src, .int .i64 z.dst, (.slice p0 m0 d0), .int .i64 z.pi, .int .i64 z.hi, .int .i64 z.beta, .int .i64 z.rid, .int .i64 z.seq, (.slice p1 m1 d1)]) (by simp [results, Tryz.results13, go_sem, cc]) rfl ?_
          rw [HE.out]
          exact ⟨_, _, _, rfl, Trc.own_mono HOW.out (fun b hb => ⟨by have h1 := hb.1; omega, by have h2 := hb.2; omega⟩), HXX.out⟩
        · have k4 : ((k : Int) == 30) = false := by rw [beq_eq_false_iff_ne]; omega
          have cf26 := blk2 (Ext.block (hz1.trans hxq) HB0.out.1)
          have cf27 := blk10 (Ext.block (hz1.trans hxq) HB0.out.2.1)
          have cf28 := blk12 (Ext.block (hz1.trans hxq) HB0.out.2.2)
          have cf29 := blk12 HBQ.out
          have cf30 := blk12 HBR.out
          go_wp2_with fail
          refine (i_RemoteEnd t _ _ rv eg _ (hk.ext ((hx0.trans hz1).trans hxq))).mono ?_
          rintro e w2 ⟨rfl, hz2⟩
          try clear cf26
          try clear cf27
          try clear cf28
          try clear cf29
          try clear cf30
          have cf31 := blk2 (Ext.block ((hz1.trans hxq).trans hz2) HB0.out.1)
          have cf32 := blk10 (Ext.block ((hz1.trans hxq).trans hz2) HB0.out.2.1)
          have cf33 := blk12 (Ext.block ((hz1.trans hxq).trans hz2) HB0.out.2.2)
          have cf34 := blk12 (Ext.block hz2 HBQ.out)
          have cf35 := blk12 (Ext.block hz2 HBR.out)
          go_wp2_with fail
          go_roundg f0
          case measure => rw [HF.out]; exact Nat.lt_succ_self _
          case rel =>
            have hfv := HF.out
            refine ⟨_, _, k + 1, z, (l ++ [(⟨rv, iv, eg⟩ : Step)]), rfl, rfl, by go_num, by omega, by omega, by omega, Lib.hid (by rw [← trav_go HV.out, ← HF.out]; exact HTR.out), HZS, by simp; omega, ?_, (hxq.trans hz2)⟩
            unfold TSt
            rw [show (l ++ [(⟨rv, iv, eg⟩ : Step)]).length = l.length + 1 from by simp]
            exact ⟨on, cn, p0, m0, d0, p1, m1, d1, S1, Ext.block hz2 HBQ.out, hos3.ext hz2, Pkt.own_ext how4 hz2, fun b hb => ⟨(hSq b hb).1, Nat.lt_of_lt_of_le (hSq b hb).2.1 hz2.size, by have h1 := (hSv b hb).1; omega, (hSq b hb).2.2⟩⟩
      · by_cases k1 : cd = 1
        · subst k1
          have cf36 := blk2 (Ext.block (hz1.trans hxt) HB0.out.1)
          have cf37 := blk10 (Ext.block (hz1.trans hxt) HB0.out.2.1)
          have cf38 := blk12 (Ext.block (hz1.trans hxt) HB0.out.2.2)
          have cf39 := blk12 HBT.out
          have cf40 := blk12 HBW.out
          go_wp2_with (at_builtin; go_loud (refine app1p E Step.flen rfl _ _ rfl (⟨rv, iv, eg⟩ : Step) (Step.one _) rfl (OwnF.ext hos2 ((Ext.refl _).alloc _)) rfl (by exact blk_list (Step.f (⟨rv, iv, eg⟩ : Step)) (blk_new wt _)) (by omega) (by unfold maxLen; omega) (by exact (hxt.alloc _).size) ?_))
          intro v' w' ho' hg' hat
          have hbt1 := own_ne (OwnF.ext hos2 ((Ext.refl _).alloc _)) (Ext.block ((Ext.refl _).alloc _) HBT.out) (by decide) hg'
          have hbw1 := own_ne (OwnF.ext hos2 ((Ext.refl _).alloc _)) (Ext.block ((Ext.refl _).alloc _) HBW.out) (by decide) hg'
          have hx1 := Ext.app (hxt.alloc _) hg' hos2 (Nat.le_refl _)
          have how3 := Pkt.own_kept (Pkt.own_ext how2 ((Ext.refl _).alloc _)) (Chg.ofGrown (S := fun b => (Value.slice os l.length cs).ownBlock = some b) hg' (fun _ h => h)) (fun b hb e => hdis b hb e)
          have hsz3 := hg'.size
          simp only [nblk_alloc] at hsz3
          have hdis3 : ∀ b, S1 b → v'.ownBlock ≠ some b := by
            intro b hb e
            rcases hat with h | h
            · exact hdis b hb (h ▸ e)
            · rw [h] at e
              have h1 := (hSt b hb).2.1
              simp only [Option.some.injEq] at e
              omega
          obtain ⟨on, cn, hve, _⟩ := (OwnF.rd (hf := Step.flen) ho').shape
          rw [show (l ++ [(⟨rv, iv, eg⟩ : Step)]).length = l.length + 1 from by simp] at hve
          subst hve
          clear hat hg'
          obtain ⟨wq, hwq, hbq, hcq, hsq⟩ := cell_set hbt1 1 (.slice on (l.length + 1) cn)
          simp only [List.setIfInBounds_toArray, List.set_cons_succ, List.set_cons_zero] at hbq
          have HWQ := Lib.hid hwq
          have HBQ := Lib.hid hbq
          have HBR := Lib.hid (hcq.other hbw1 hne)
          have hos3 := ho'.chg hcq (fun kk hkk e => absurd hkk (by rw [e]; exact ho'.ne hbt1 (by decide)))
          have how4 := Pkt.own_kept how3 hcq (fun b hb e => by have h1 := (hSv b hb).1; omega)
          have hxq := hx1.chg1 hcq hge
          have hSq : ∀ b, S1 b → (w.heap.size + 1 + 1 + 1) ≤ b ∧ b < wq.heap.size ∧ (Value.slice on (l.length + 1) cn).ownBlock ≠ some b := fun b hb => ⟨(hSt b hb).1, by have h1 := (hSt b hb).2.1; omega, hdis3 b hb⟩
          have fg1 := fr_of hbt1 1
          have ct1 := blk12 hbt1
          have ct2 := blk12 hbw1
          clear hbt1 hbw1 hwq hbq how3 ho' hx1 hsq hsz3
          go_upto_region 11 with (fail)
          rw [← HWQ.out]
          clear fg1 ct1 ct2
          try clear cf36
          try clear cf37
          try clear cf38
          try clear cf39
          try clear cf40
          have HE : Hid ((traverse t now dead x) = ⟨1, (l ++ [(⟨rv, iv, eg⟩ : Step)]), z⟩) := Lib.hid (by rw [← HTR.out, HF.out]; exact trav_del HV.out)
          have OT := Lib.hid (Trc.own_of (cd := 1) (lo := (w.heap.size + 1 + 1 + 1)) hos3 how4 hs1 hSq)
          have hR := Ext.block (hz1.trans hxq) HB0.out.2.2
          obtain ⟨wc, hwc, hrc, hcc, hsc⟩ := vd_set hR (.int .i64 1) ((.slice on (l.length + 1) cn)) (.int .i64 z.kind) (.int .i64 z.src) (.int .i64 z.dst) ((.slice p0 m0 d0)) (.int .i64 z.pi) (.int .i64 z.hi) (.int .i64 z.beta) (.int .i64 z.rid) (.int .i64 z.seq) ((.slice p1 m1 d1))
          have HOW := Lib.hid (Trc.own_kept OT.out hcc (fun b hb e => by have h1 := hb.1; omega))
          have HXX := Lib.hid (((hx0.trans hz1).trans hxq).chg1 hcc (by omega))
          have HWC := Lib.hid hwc
          have HRC := Lib.hid hrc
          have hsz2 : wq.heap.size = wc.heap.size := by rw [hsc]
          have hRF := fun o => fr_of hR o
          have gr0 := hRF 0
          have gr1 := hRF 1
          have gr2 := hRF 2
          have gr3 := hRF 3
          have gr4 := hRF 4
          have gr5 := hRF 5
          have gr6 := hRF 6
          have gr7 := hRF 7
          have gr8 := hRF 8
          have gr9 := hRF 9
          have gr10 := hRF 10
          have gr11 := hRF 11
          clear hRF hR  hwc hrc hcc hsc
          have cf41 := blk2 (Ext.block (hz1.trans hxq) HB0.out.1)
          have cf42 := blk10 (Ext.block (hz1.trans hxq) HB0.out.2.1)
          have cf43 := blk12 (Ext.block (hz1.trans hxq) HB0.out.2.2)
          have cf44 := blk12 HBQ.out
          have cf45 := blk12 HBR.out
          go_wp2_with fail
          rw [← HWC.out]
          clear gr0 gr1 gr2 gr3 gr4 gr5 gr6 gr7 gr8 gr9 gr10 gr11 cf41 cf42 cf43 cf44 cf45
          have cc := blk12 HRC.out
          refine bodyPost_ret (v := .agg #[.int .i64 1, (.slice on (l.length + 1) cn), .int .i64 z.kind, .int .i64 z.src, .int .i64 z.dst, (.slice p0 m0 d0), .int .i64 z.pi, .int .i64 z.hi, .int .i64 z.beta, .int .i64 z.rid, .int .i64 z.seq, (.slice p1 m1 d1)]) (by simp [results, Tryz.results13, go_sem, cc]) rfl ?_
          rw [HE.out]
          exact ⟨_, _, _, rfl, Trc.own_mono HOW.out (fun b hb => ⟨by have h1 := hb.1; omega, by have h2 := hb.2; omega⟩), HXX.out⟩
        · have HE : Hid ((traverse t now dead x) = ⟨cd, l, z⟩) := Lib.hid (by rw [← HTR.out, HF.out]; exact trav_bad HV.out k0 k1)
          have k2 : 1 < cd := by have := HNN.out; omega
          have k5 : (cd == 0) = false := by rw [beq_eq_false_iff_ne]; exact k0
          have k6 : (cd != 0) = true := by simp only [bne, k5]; rfl
          have k7 : (cd == 1) = false := by rw [beq_eq_false_iff_ne]; exact k1
          have k8 : (cd != 1) = true := by simp only [bne, k7]; rfl
          have OT := Lib.hid (Trc.own_of (cd := cd) (lo := (w.heap.size + 1 + 1 + 1)) hos2 how2 hs1 hSt)
          have hR := Ext.block (hz1.trans hxt) HB0.out.2.2
          obtain ⟨wc, hwc, hrc, hcc, hsc⟩ := vd_set hR (.int .i64 cd) ((.slice os l.length cs)) (.int .i64 z.kind) (.int .i64 z.src) (.int .i64 z.dst) ((.slice p0 m0 d0)) (.int .i64 z.pi) (.int .i64 z.hi) (.int .i64 z.beta) (.int .i64 z.rid) (.int .i64 z.seq) ((.slice p1 m1 d1))
          have HOW := Lib.hid (Trc.own_kept OT.out hcc (fun b hb e => by have h1 := hb.1; omega))
          have HXX := Lib.hid (((hx0.trans hz1).trans hxt).chg1 hcc (by omega))
          have HWC := Lib.hid hwc
          have HRC := Lib.hid hrc
          have hsz2 : wt.heap.size = wc.heap.size := by rw [hsc]
          have hRF := fun o => fr_of hR o
          have gr0 := hRF 0
          have gr1 := hRF 1
          have gr2 := hRF 2
          have gr3 := hRF 3
          have gr4 := hRF 4
          have gr5 := hRF 5
          have gr6 := hRF 6
          have gr7 := hRF 7
          have gr8 := hRF 8
          have gr9 := hRF 9
          have gr10 := hRF 10
          have gr11 := hRF 11
          clear hRF hR  hwc hrc hcc hsc
          have cf46 := blk2 (Ext.block (hz1.trans hxt) HB0.out.1)
          have cf47 := blk10 (Ext.block (hz1.trans hxt) HB0.out.2.1)
          have cf48 := blk12 (Ext.block (hz1.trans hxt) HB0.out.2.2)
          have cf49 := blk12 HBT.out
          have cf50 := blk12 HBW.out
          go_wp2_with fail
          rw [← HWC.out]
          clear gr0 gr1 gr2 gr3 gr4 gr5 gr6 gr7 gr8 gr9 gr10 gr11 cf46 cf47 cf48 cf49 cf50
          have cc := blk12 HRC.out
          refine bodyPost_ret (v := .agg #[.int .i64 cd, (.slice os l.length cs), .int .i64 z.kind, .int .i64 z.src, .int .i64 z.dst, (.slice p0 m0 d0), .int .i64 z.pi, .int .i64 z.hi, .int .i64 z.beta, .int .i64 z.rid, .int .i64 z.seq, (.slice p1 m1 d1)]) (by simp [results, Tryz.results13, go_sem, cc]) rfl ?_
          rw [HE.out]
          exact ⟨_, _, _, rfl, Trc.own_mono HOW.out (fun b hb => ⟨by have h1 := hb.1; omega, by have h2 := hb.2; omega⟩), HXX.out⟩

set_option maxRecDepth 100000 in
set_option maxHeartbeats 40000000 in
theorem s_Traverse (t : Topo) (va vk : Value) (now : Int) (dead : List Int) (vd : Value) (x : Pkt) (v0 v1 : Value) (w : World) (ha : RdS ASd.rep w va t.ases) (hk : RdS Lnk.rep w vk t.links) (hd : RdS Rep.int w vd dead) (r0 : RdS Part.rep w v0 x.path.parts) (r1 : RdS Rep.byte w v1 x.pay) (ht : t.size ≤ 1048576) (hl : x.size ≤ 1048576) :
    Calls Tryz.prog 9 #[.agg #[va, vk], .int .i64 now, vd, .agg #[.int .i64 x.kind, .int .i64 x.src, .int .i64 x.dst, v0, .int .i64 x.pi, .int .i64 x.hi, .int .i64 x.beta, .int .i64 x.rid, .int .i64 x.seq, v1]] w fun e w' => ∃ u0 u1 u2, e = .returned (.agg #[.int .i64 (traverse t now dead x).code, u0, .int .i64 (traverse t now dead x).pkt.kind, .int .i64 (traverse t now dead x).pkt.src, .int .i64 (traverse t now dead x).pkt.dst, u1, .int .i64 (traverse t now dead x).pkt.pi, .int .i64 (traverse t now dead x).pkt.hi, .int .i64 (traverse t now dead x).pkt.beta, .int .i64 (traverse t now dead x).pkt.rid, .int .i64 (traverse t now dead x).pkt.seq, u2]) ∧ Trc.own (rng w.heap.size w'.heap.size) w' u0 u1 u2 (traverse t now dead x) ∧ Ext w w' := by
  obtain ⟨o, cap, rfl, hsm⟩ := r0.shape
  obtain ⟨oy, cy, rfl, hsy⟩ := r1.shape
  obtain ⟨od, cdd, rfl, _⟩ := hd.shape
  obtain ⟨E⟩ := elemStep
  have hx0 := ext3 w (.cells #[va, vk] 47) (.cells #[.int .i64 x.kind, .int .i64 x.src, .int .i64 x.dst, .slice o x.path.parts.length cap, .int .i64 x.pi, .int .i64 x.hi, .int .i64 x.beta, .int .i64 x.rid, .int .i64 x.seq, .slice oy x.pay.length cy] 40) (.cells #[.int .i64 0, .slice none 0 0, .int .i64 0, .int .i64 0, .int .i64 0, .slice none 0 0, .int .i64 0, .int .i64 0, .int .i64 0, .int .i64 0, .int .i64 0, .slice none 0 0] 42)
  have HB0 := Lib.hid (al3 w (.cells #[va, vk] 47) (.cells #[.int .i64 x.kind, .int .i64 x.src, .int .i64 x.dst, .slice o x.path.parts.length cap, .int .i64 x.pi, .int .i64 x.hi, .int .i64 x.beta, .int .i64 x.rid, .int .i64 x.seq, .slice oy x.pay.length cy] 40) (.cells #[.int .i64 0, .slice none 0 0, .int .i64 0, .int .i64 0, .int .i64 0, .slice none 0 0, .int .i64 0, .int .i64 0, .int .i64 0, .int .i64 0, .int .i64 0, .slice none 0 0] 42))
  go_enter Tryz.func9, Tryz.ntmps9
  have cf1 := blk2 HB0.out.1
  have cf2 := blk10 HB0.out.2.1
  have cf3 := blk12 HB0.out.2.2
  go_wp2_with fail
  refine (s_l26Copy x _ _ _ (r0.ext hx0) (r1.ext hx0) hl).mono ?_
  rintro e w1 ⟨u0, u1, rfl, ou, hz1⟩
  obtain ⟨p0, d0, rfl, _⟩ := (Pkt.own_rd0 ou).shape
  obtain ⟨p1, d1, rfl, _⟩ := (Pkt.own_rd1 ou).shape
  have hs1 : (w.heap.size + 1 + 1 + 1) ≤ w1.heap.size := by simpa using hz1.size
  obtain ⟨g, hgw⟩ : ∃ g : Nat, g = w1.heap.size := ⟨_, rfl⟩
  have hxc := (Ext.refl w1).alloc (.cells #[.int .i64 0, .slice none 0 0, .int .i64 x.kind, .int .i64 x.src, .int .i64 x.dst, .slice p0 x.path.parts.length d0, .int .i64 x.pi, .int .i64 x.hi, .int .i64 x.beta, .int .i64 x.rid, .int .i64 x.seq, .slice p1 x.pay.length d1] 42)
  have hge : w1.heap.size ≤ g := by rw [hgw]; exact Nat.le_refl _
  have HST0 : Hid (TSt (w.heap.size + 1 + 1 + 1) w1.heap.size g 0 [] x (w1.alloc (.cells #[.int .i64 0, .slice none 0 0, .int .i64 x.kind, .int .i64 x.src, .int .i64 x.dst, .slice p0 x.path.parts.length d0, .int .i64 x.pi, .int .i64 x.hi, .int .i64 x.beta, .int .i64 x.rid, .int .i64 x.seq, .slice p1 x.pay.length d1] 42))) := by
    rw [hgw]
    exact Lib.hid ⟨none, 0, _, _, _, _, _, _, _, blk_new _ _, OwnF.nil _ _ _ _ _, Pkt.own_ext ou ((Ext.refl _).alloc _), fun b hb => ⟨by have h1 := hb.1; simp at h1; omega, Nat.lt_of_lt_of_le hb.2 ((Ext.refl _).alloc _).size, (fun e => by rw [e] at hb; exact absurd hb.2 (Nat.lt_irrefl _)), by simp [Value.ownBlock]⟩⟩
  clear ou
  try clear cf1
  try clear cf2
  try clear cf3
  have cf4 := blk2 (Ext.block hz1 HB0.out.1)
  have cf5 := blk10 (Ext.block hz1 HB0.out.2.1)
  have cf6 := blk12 (Ext.block hz1 HB0.out.2.2)
  have cpk := blk10 (Ext.block (hz1.trans hxc) HB0.out.2.1)
  go_wp2_with fail
  rw [← hgw]
  clear hgw
  clear cpk
  try clear cf4
  try clear cf5
  try clear cf6
  go_loopg [10, 11, 12] 30 (fun gk ar ai ak wr => ∃ (rv iv : Int) (k : Nat) (y : Pkt) (l : List Step), ar = .int .i64 rv ∧ ai = .int .i64 iv ∧ ak = .int .i64 k ∧ gk + k = 30 ∧ 0 ≤ k ∧ k ≤ 30 ∧ Hid (trav t now dead gk rv iv y l = (traverse t now dead x)) ∧ Hid (y.size = x.size) ∧ l.length ≤ k ∧ TSt (w.heap.size + 1 + 1 + 1) w1.heap.size g 0 l y wr ∧ Ext w1 wr)
  case atStart => exact ⟨x.src, 0, 0, x, [], rfl, rfl, rfl, rfl, by omega, by omega, Lib.hid rfl, Lib.hid rfl, Nat.zero_le _, HST0.out, hxc⟩
  case round =>
    clear HST0 hxc
    obtain ⟨rv, iv, k, y, l, rfl, rfl, rfl, hn0, hn1, hn2, HTR, HYS, hll, hst, hx⟩ := hrel
    obtain ⟨os, cs, o0, n0, c0, o1, n1, c1, S0, hg, hos, hown, hS⟩ := hst
    have HGB := Lib.hid hg; clear hg
    have hly : y.size ≤ 1048576 := by rw [HYS.out]; exact hl
    by_cases k9 : k < 30
    · have k10 : (k : Int) < 30 := by omega
      obtain ⟨f0, hf0⟩ : ∃ f0, gk = f0 + 1 := ⟨gk - 1, by omega⟩
      have HF := Lib.hid hf0; clear hf0
      have rz0 := Pkt.own_rd0 hown
      have rz1 := Pkt.own_rd1 hown
      obtain ⟨v, hv⟩ : ∃ v, forward t rv now (failedIfs t dead rv) iv y = v := ⟨_, rfl⟩
      obtain ⟨cd, eg, z⟩ := v
      have HV := Lib.hid hv
      have HCD : Hid ((forward t rv now (failedIfs t dead rv) iv y).code = cd) := Lib.hid (by rw [hv])
      have HEG : Hid ((forward t rv now (failedIfs t dead rv) iv y).eg = eg) := Lib.hid (by rw [hv])
      have HZ : Hid ((forward t rv now (failedIfs t dead rv) iv y).pkt = z) := Lib.hid (by rw [hv])
      have HZS : Hid (z.size = x.size) := Lib.hid (by rw [← HZ.out, fw_size]; exact HYS.out)
      have HNN : Hid (0 ≤ cd) := Lib.hid (by rw [← HCD.out]; exact fw_nn _ _ _ _ _ _)
      clear hv
      have cf7 := blk2 (Ext.block (hz1.trans hx) HB0.out.1)
      have cf8 := blk10 (Ext.block (hz1.trans hx) HB0.out.2.1)
      have cf9 := blk12 (Ext.block (hz1.trans hx) HB0.out.2.2)
      have cf10 := blk12 HGB.out
      go_upto_region 7 with (fail)
      go_cut [13] (fun v13 wx => ∃ gv : Nat, v13 = .pointer (some ⟨gv, 0, none⟩) ∧ VSt wr.heap.size gv cd eg z wx ∧ wr.heap.size ≤ gv ∧ Ext wr wx)
      case first =>
        refine planStep (.blk [0, 1, 2, 3, 4, 5, 7, 8, 9] (.two 6 11 (.two 10 11 (.one 11 (.one 12 .done)) (.one 10 (.one 12 .done))) (.one 6 (.one 10 (.one 12 .done))))) [12] (by kernel_rfl) (by kernel_rfl) ?_
        refine blkStep (fun K HK => ?_)
        simp only [pick, List.filterMap_cons, List.filterMap_nil, List.getElem?_toArray, List.getElem?_cons_zero, List.getElem?_cons_succ]
        go_wp2_with fail
        refine HK.out _ _ ?_
        clear HK K
        refine twoStep ?_ ?_
        · refine oneStep (fun K HK => ?_)
          simp only [pick, List.filterMap_cons, List.filterMap_nil, List.getElem?_toArray, List.getElem?_cons_zero, List.getElem?_cons_succ]
          go_wp2_with fail
          refine (s_FailedInterfaces t _ _ dead _ rv _ (ha.ext (((hx0.trans hz1).trans hx).trans (Ext.refl _).drew)) (hk.ext (((hx0.trans hz1).trans hx).trans (Ext.refl _).drew)) (hd.ext (((hx0.trans hz1).trans hx).trans (Ext.refl _).drew)) ht).mono ?_
          rintro e wk0 ⟨rfl, hk0⟩
          have hcc1 := blk2 (Ext.block ((hz1.trans hx).trans ((Ext.refl _).drew.trans hk0)) HB0.out.1)
          have hcc2 := blk10 (Ext.block ((hz1.trans hx).trans ((Ext.refl _).drew.trans hk0)) HB0.out.2.1)
          have hcc3 := blk12 (Ext.block ((hz1.trans hx).trans ((Ext.refl _).drew.trans hk0)) HB0.out.2.2)
          have hcc4 := blk12 (Ext.block ((Ext.refl _).trans ((Ext.refl _).drew.trans hk0)) HGB.out)
          go_wp2_with fail
          refine HK.out _ _ hk0 ?_
          clear HK K
          refine twoStep ?_ ?_
          · refine oneStep (fun K HK => ?_)
            simp only [pick, List.filterMap_cons, List.filterMap_nil, List.getElem?_toArray, List.getElem?_cons_zero, List.getElem?_cons_succ]
            go_wp2_with fail
            refine (s_Forward t _ _ rv now (failedIfs t dead rv) iv y _ _ _ (ha.ext (((hx0.trans hz1).trans hx).trans ((Ext.refl _).drew.trans hk0))) (hk.ext (((hx0.trans hz1).trans hx).trans ((Ext.refl _).drew.trans hk0))) (rz0.ext ((Ext.refl _).drew.trans hk0)) (rz1.ext ((Ext.refl _).drew.trans hk0)) hly).mono ?_
            rintro e wk1 ⟨u0, u1, rfl, ou, hk1⟩
            rw [HCD.out, HEG.out, HZ.out]
            rw [HZ.out] at ou
            obtain ⟨p0, d0, rfl, _⟩ := (Pkt.own_rd0 ou).shape
            obtain ⟨p1, d1, rfl, _⟩ := (Pkt.own_rd1 ou).shape
            have hcc5 := blk2 (Ext.block ((hz1.trans hx).trans (((Ext.refl _).drew.trans hk0).trans hk1)) HB0.out.1)
            have hcc6 := blk10 (Ext.block ((hz1.trans hx).trans (((Ext.refl _).drew.trans hk0).trans hk1)) HB0.out.2.1)
            have hcc7 := blk12 (Ext.block ((hz1.trans hx).trans (((Ext.refl _).drew.trans hk0).trans hk1)) HB0.out.2.2)
            have hcc8 := blk12 (Ext.block ((Ext.refl _).trans (((Ext.refl _).drew.trans hk0).trans hk1)) HGB.out)
            go_wp2_with fail
            refine HK.out _ _ hk1 ?_
            clear HK K
            refine oneStep (fun K HK => ?_)
            simp only [pick, List.filterMap_cons, List.filterMap_nil, List.getElem?_toArray, List.getElem?_cons_zero, List.getElem?_cons_succ]
            go_wp2_with fail
            refine HK.out _ _ ((Ext.refl _).alloc _) ?_
            clear HK K
            refine badStep (by kernel_rfl) (fun K HK => ?_)
            simp only [pick, List.filterMap_cons, List.filterMap_nil, List.getElem?_toArray, List.getElem?_cons_zero, List.getElem?_cons_succ]
            go_wp2_with fail
            refine HK.out _ _ ?_
            clear HK K
            refine doneStep (by kernel_rfl) ?_
            go_wp2_with fail
            go_meet
            exact ⟨_, rfl, ⟨p0, _, d0, p1, _, d1, _, blk_new _ _, Pkt.own_ext ou ((Ext.refl _).alloc _), fun b hb => ⟨Nat.le_trans ((Ext.refl _).drew.trans hk0).size hb.1, Nat.lt_of_lt_of_le hb.2 ((Ext.refl _).alloc _).size, fun e => by rw [e] at hb; exact absurd hb.2 (Nat.lt_irrefl _)⟩⟩, (((Ext.refl _).drew.trans hk0).trans hk1).size, (((Ext.refl _).drew.trans hk0).trans hk1).alloc _⟩
          · have hba := blk_new wk0 (.cells #[.int .i64 0, .int .i64 0, .int .i64 0, .int .i64 0, .int .i64 0, .slice none 0 0, .int .i64 0, .int .i64 0, .int .i64 0, .int .i64 0, .int .i64 0, .slice none 0 0] 66)
            have HBA := Lib.hid hba; clear hba
            refine oneStep (fun K HK => ?_)
            simp only [pick, List.filterMap_cons, List.filterMap_nil, List.getElem?_toArray, List.getElem?_cons_zero, List.getElem?_cons_succ]
            go_wp2_with fail
            refine HK.out _ _ ((Ext.refl _).alloc _) ?_
            clear HK K
            refine oneStep (fun K HK => ?_)
            simp only [pick, List.filterMap_cons, List.filterMap_nil, List.getElem?_toArray, List.getElem?_cons_zero, List.getElem?_cons_succ]
            go_wp2_with fail
            refine (s_Forward t _ _ rv now (failedIfs t dead rv) iv y _ _ _ (ha.ext (((hx0.trans hz1).trans hx).trans (((Ext.refl _).drew.trans hk0).trans ((Ext.refl _).alloc _)))) (hk.ext (((hx0.trans hz1).trans hx).trans (((Ext.refl _).drew.trans hk0).trans ((Ext.refl _).alloc _)))) (rz0.ext (((Ext.refl _).drew.trans hk0).trans ((Ext.refl _).alloc _))) (rz1.ext (((Ext.refl _).drew.trans hk0).trans ((Ext.refl _).alloc _))) hly).mono ?_
            rintro e wk1 ⟨u0, u1, rfl, ou, hk1⟩
            rw [HCD.out, HEG.out, HZ.out]
            rw [HZ.out] at ou
            obtain ⟨p0, d0, rfl, _⟩ := (Pkt.own_rd0 ou).shape
            obtain ⟨p1, d1, rfl, _⟩ := (Pkt.own_rd1 ou).shape
            have hcc9 := blk2 (Ext.block ((hz1.trans hx).trans ((((Ext.refl _).drew.trans hk0).trans ((Ext.refl _).alloc _)).trans hk1)) HB0.out.1)
            have hcc10 := blk10 (Ext.block ((hz1.trans hx).trans ((((Ext.refl _).drew.trans hk0).trans ((Ext.refl _).alloc _)).trans hk1)) HB0.out.2.1)
            have hcc11 := blk12 (Ext.block ((hz1.trans hx).trans ((((Ext.refl _).drew.trans hk0).trans ((Ext.refl _).alloc _)).trans hk1)) HB0.out.2.2)
            have hcc12 := blk12 (Ext.block ((Ext.refl _).trans ((((Ext.refl _).drew.trans hk0).trans ((Ext.refl _).alloc _)).trans hk1)) HGB.out)
            go_wp2_with fail
            refine HK.out _ _ hk1 ?_
            clear HK K
            have hbs := Ext.block hk1 HBA.out
            have hcs := blk12 hbs
            have hfs0 := fr_of hbs 0
            have hfs1 := fr_of hbs 1
            have hfs2 := fr_of hbs 2
            have hfs3 := fr_of hbs 3
            have hfs4 := fr_of hbs 4
            have hfs5 := fr_of hbs 5
            have hfs6 := fr_of hbs 6
            have hfs7 := fr_of hbs 7
            have hfs8 := fr_of hbs 8
            have hfs9 := fr_of hbs 9
            have hfs10 := fr_of hbs 10
            have hfs11 := fr_of hbs 11
            have HBS := Lib.hid hbs; clear hbs
            refine badStep (by kernel_rfl) (fun K HK => ?_)
            simp only [pick, List.filterMap_cons, List.filterMap_nil, List.getElem?_toArray, List.getElem?_cons_zero, List.getElem?_cons_succ]
            go_wp2_with fail
            refine HK.out _ _ ?_
            clear HK K
            refine doneStep (by kernel_rfl) ?_
            go_wp2_with fail
            go_meet
            obtain ⟨wq, hwq, hbq, hcq, hsq⟩ := vd_set HBS.out (.int .i64 cd) (.int .i64 eg) (.int .i64 z.kind) (.int .i64 z.src) (.int .i64 z.dst) ((.slice p0 z.path.parts.length d0)) (.int .i64 z.pi) (.int .i64 z.hi) (.int .i64 z.beta) (.int .i64 z.rid) (.int .i64 z.seq) ((.slice p1 z.pay.length d1))
            rw [← hwq]
            exact ⟨_, rfl, ⟨p0, _, d0, p1, _, d1, _, hbq, Pkt.own_kept (Pkt.own_ext ou (Ext.refl _)) hcq (fun b (hb : rng _ _ b) (e : b = _) => absurd hb.1 (by rw [e]; exact Nat.not_le.2 (Nat.lt_of_lt_of_le (blk_lt HBA.out) (Ext.refl _).size))), fun b hb => ⟨Nat.le_trans (((Ext.refl _).drew.trans hk0).trans ((Ext.refl _).alloc _)).size hb.1, by rw [hsq]; exact Nat.lt_of_lt_of_le hb.2 (Ext.refl _).size, (fun b (hb : rng _ _ b) (e : b = _) => absurd hb.1 (by rw [e]; exact Nat.not_le.2 (Nat.lt_of_lt_of_le (blk_lt HBA.out) (Ext.refl _).size))) b hb⟩⟩, ((Ext.refl _).drew.trans hk0).size, ((((Ext.refl _).drew.trans hk0).trans ((Ext.refl _).alloc _)).trans hk1).chg1 hcq ((Ext.refl _).drew.trans hk0).size⟩
        · have hba := blk_new wr (.cells #[.int .i64 0, .int .i64 0, .int .i64 0, .int .i64 0, .int .i64 0, .slice none 0 0, .int .i64 0, .int .i64 0, .int .i64 0, .int .i64 0, .int .i64 0, .slice none 0 0] 66)
          have HBA := Lib.hid hba; clear hba
          refine oneStep (fun K HK => ?_)
          simp only [pick, List.filterMap_cons, List.filterMap_nil, List.getElem?_toArray, List.getElem?_cons_zero, List.getElem?_cons_succ]
          go_wp2_with fail
          refine HK.out _ _ ((Ext.refl _).alloc _) ?_
          clear HK K
          refine oneStep (fun K HK => ?_)
          simp only [pick, List.filterMap_cons, List.filterMap_nil, List.getElem?_toArray, List.getElem?_cons_zero, List.getElem?_cons_succ]
          go_wp2_with fail
          refine (s_FailedInterfaces t _ _ dead _ rv _ (ha.ext (((hx0.trans hz1).trans hx).trans ((Ext.refl _).drew.trans ((Ext.refl _).alloc _)))) (hk.ext (((hx0.trans hz1).trans hx).trans ((Ext.refl _).drew.trans ((Ext.refl _).alloc _)))) (hd.ext (((hx0.trans hz1).trans hx).trans ((Ext.refl _).drew.trans ((Ext.refl _).alloc _)))) ht).mono ?_
          rintro e wk0 ⟨rfl, hk0⟩
          have hcc13 := blk2 (Ext.block ((hz1.trans hx).trans (((Ext.refl _).drew.trans ((Ext.refl _).alloc _)).trans hk0)) HB0.out.1)
          have hcc14 := blk10 (Ext.block ((hz1.trans hx).trans (((Ext.refl _).drew.trans ((Ext.refl _).alloc _)).trans hk0)) HB0.out.2.1)
          have hcc15 := blk12 (Ext.block ((hz1.trans hx).trans (((Ext.refl _).drew.trans ((Ext.refl _).alloc _)).trans hk0)) HB0.out.2.2)
          have hcc16 := blk12 (Ext.block ((Ext.refl _).trans (((Ext.refl _).drew.trans ((Ext.refl _).alloc _)).trans hk0)) HGB.out)
          go_wp2_with fail
          refine HK.out _ _ hk0 ?_
          clear HK K
          refine oneStep (fun K HK => ?_)
          simp only [pick, List.filterMap_cons, List.filterMap_nil, List.getElem?_toArray, List.getElem?_cons_zero, List.getElem?_cons_succ]
          go_wp2_with fail
          refine (s_Forward t _ _ rv now (failedIfs t dead rv) iv y _ _ _ (ha.ext (((hx0.trans hz1).trans hx).trans (((Ext.refl _).drew.trans ((Ext.refl _).alloc _)).trans hk0))) (hk.ext (((hx0.trans hz1).trans hx).trans (((Ext.refl _).drew.trans ((Ext.refl _).alloc _)).trans hk0))) (rz0.ext (((Ext.refl _).drew.trans ((Ext.refl _).alloc _)).trans hk0)) (rz1.ext (((Ext.refl _).drew.trans ((Ext.refl _).alloc _)).trans hk0)) hly).mono ?_
          rintro e wk1 ⟨u0, u1, rfl, ou, hk1⟩
          rw [HCD.out, HEG.out, HZ.out]
          rw [HZ.out] at ou
          obtain ⟨p0, d0, rfl, _⟩ := (Pkt.own_rd0 ou).shape
          obtain ⟨p1, d1, rfl, _⟩ := (Pkt.own_rd1 ou).shape
          have hcc17 := blk2 (Ext.block ((hz1.trans hx).trans ((((Ext.refl _).drew.trans ((Ext.refl _).alloc _)).trans hk0).trans hk1)) HB0.out.1)
          have hcc18 := blk10 (Ext.block ((hz1.trans hx).trans ((((Ext.refl _).drew.trans ((Ext.refl _).alloc _)).trans hk0).trans hk1)) HB0.out.2.1)
          have hcc19 := blk12 (Ext.block ((hz1.trans hx).trans ((((Ext.refl _).drew.trans ((Ext.refl _).alloc _)).trans hk0).trans hk1)) HB0.out.2.2)
          have hcc20 := blk12 (Ext.block ((Ext.refl _).trans ((((Ext.refl _).drew.trans ((Ext.refl _).alloc _)).trans hk0).trans hk1)) HGB.out)
          go_wp2_with fail
          refine HK.out _ _ hk1 ?_
          clear HK K
          have hbs := Ext.block (hk0.trans hk1) HBA.out
          have hcs := blk12 hbs
          have hfs0 := fr_of hbs 0
          have hfs1 := fr_of hbs 1
          have hfs2 := fr_of hbs 2
          have hfs3 := fr_of hbs 3
          have hfs4 := fr_of hbs 4
          have hfs5 := fr_of hbs 5
          have hfs6 := fr_of hbs 6
          have hfs7 := fr_of hbs 7
          have hfs8 := fr_of hbs 8
          have hfs9 := fr_of hbs 9
          have hfs10 := fr_of hbs 10
          have hfs11 := fr_of hbs 11
          have HBS := Lib.hid hbs; clear hbs
          refine badStep (by kernel_rfl) (fun K HK => ?_)
          simp only [pick, List.filterMap_cons, List.filterMap_nil, List.getElem?_toArray, List.getElem?_cons_zero, List.getElem?_cons_succ]
          go_wp2_with fail
          refine HK.out _ _ ?_
          clear HK K
          refine doneStep (by kernel_rfl) ?_
          go_wp2_with fail
          go_meet
          obtain ⟨wq, hwq, hbq, hcq, hsq⟩ := vd_set HBS.out (.int .i64 cd) (.int .i64 eg) (.int .i64 z.kind) (.int .i64 z.src) (.int .i64 z.dst) ((.slice p0 z.path.parts.length d0)) (.int .i64 z.pi) (.int .i64 z.hi) (.int .i64 z.beta) (.int .i64 z.rid) (.int .i64 z.seq) ((.slice p1 z.pay.length d1))
          rw [← hwq]
          exact ⟨_, rfl, ⟨p0, _, d0, p1, _, d1, _, hbq, Pkt.own_kept (Pkt.own_ext ou (Ext.refl _)) hcq (fun b (hb : rng _ _ b) (e : b = _) => absurd hb.1 (by rw [e]; exact Nat.not_le.2 (Nat.lt_of_lt_of_le (blk_lt HBA.out) hk0.size))), fun b hb => ⟨Nat.le_trans (((Ext.refl _).drew.trans ((Ext.refl _).alloc _)).trans hk0).size hb.1, by rw [hsq]; exact Nat.lt_of_lt_of_le hb.2 (Ext.refl _).size, (fun b (hb : rng _ _ b) (e : b = _) => absurd hb.1 (by rw [e]; exact Nat.not_le.2 (Nat.lt_of_lt_of_le (blk_lt HBA.out) hk0.size))) b hb⟩⟩, (Ext.refl _).drew.size, ((((Ext.refl _).drew.trans ((Ext.refl _).alloc _)).trans hk0).trans hk1).chg1 hcq (Ext.refl _).drew.size⟩
      case rest =>
        obtain ⟨gv, rfl, ⟨p0, m0, d0, p1, m1, d1, S1, hbv, hov, hSv⟩, hvge, hxv⟩ := hcut
        obtain ⟨wv, hwv⟩ : ∃ wv : World, wv = wc := ⟨_, rfl⟩
        subst hwv
        have hgl : g < wr.heap.size := blk_lt HGB.out
        have hne : gv ≠ g := by omega
        have HBV := Lib.hid hbv; clear hbv
        have hG := Ext.block hxv HGB.out
        obtain ⟨wt, hwt, hbt, hct, hszt⟩ := tr_set hG (.int .i64 cd) (.int .i64 z.kind) (.int .i64 z.src) (.int .i64 z.dst) ((.slice p0 m0 d0)) (.int .i64 z.pi) (.int .i64 z.hi) (.int .i64 z.beta) (.int .i64 z.rid) (.int .i64 z.seq) ((.slice p1 m1 d1))
        have HWT := Lib.hid hwt
        have HBT := Lib.hid hbt
        have HBW := Lib.hid (hct.other HBV.out hne)
        have hos2 := (hos.ext hxv).chg hct (fun kk hkk e => absurd hkk (by rw [e]; exact (hos.ext hxv).ne hG (by decide)))
        have how2 := Pkt.own_kept hov hct (fun b hb e => by have h1 := (hSv b hb).1; omega)
        have hxt := (hx.trans hxv).chg1 hct hge
        have hdis : ∀ b, S1 b → (Value.slice os l.length cs).ownBlock ≠ some b := fun b hb e => by have h1 := (hSv b hb).1; have h2 := (hos.block b e).2; omega
        have hSt : ∀ b, S1 b → (w.heap.size + 1 + 1 + 1) ≤ b ∧ b < wt.heap.size ∧ (Value.slice os l.length cs).ownBlock ≠ some b := fun b hb => ⟨by have h1 := (hSv b hb).1; omega, by have h1 := (hSv b hb).2.1; omega, hdis b hb⟩
        have hfg0 := fr_of hG 0
        have hfg2 := fr_of hG 2
        have hfg3 := fr_of hG 3
        have hfg4 := fr_of hG 4
        have hfg5 := fr_of hG 5
        have hfg6 := fr_of hG 6
        have hfg7 := fr_of hG 7
        have hfg8 := fr_of hG 8
        have hfg9 := fr_of hG 9
        have hfg10 := fr_of hG 10
        have hfg11 := fr_of hG 11
        clear hwt hbt hG hszt
        try clear cf7
        try clear cf8
        try clear cf9
        try clear cf10
        have cf11 := blk2 (Ext.block ((hz1.trans hx).trans hxv) HB0.out.1)
        have cf12 := blk10 (Ext.block ((hz1.trans hx).trans hxv) HB0.out.2.1)
        have cf13 := blk12 (Ext.block ((hz1.trans hx).trans hxv) HB0.out.2.2)
        have cf14 := blk12 (Ext.block hxv HGB.out)
        have cf15 := blk12 HBV.out
        go_upto_region 10 with (fail)
        rw [← HWT.out]
        clear hfg0 hfg2 hfg3 hfg4 hfg5 hfg6 hfg7 hfg8 hfg9 hfg10 hfg11
        clear cf11
        clear cf12
        clear cf13
        clear cf14
        clear cf15
        by_cases k0 : cd = 0
        · subst k0
          have cf16 := blk2 (Ext.block (hz1.trans hxt) HB0.out.1)
          have cf17 := blk10 (Ext.block (hz1.trans hxt) HB0.out.2.1)
          have cf18 := blk12 (Ext.block (hz1.trans hxt) HB0.out.2.2)
          have cf19 := blk12 HBT.out
          have cf20 := blk12 HBW.out
          go_wp2_with (at_builtin; go_loud (refine app1p E Step.flen rfl _ _ rfl (⟨rv, iv, eg⟩ : Step) (Step.one _) rfl (OwnF.ext hos2 ((Ext.refl _).alloc _)) rfl (by exact blk_list (Step.f (⟨rv, iv, eg⟩ : Step)) (blk_new wt _)) (by omega) (by unfold maxLen; omega) (by exact (hxt.alloc _).size) ?_))
          intro v' w' ho' hg' hat
          have hbt1 := own_ne (OwnF.ext hos2 ((Ext.refl _).alloc _)) (Ext.block ((Ext.refl _).alloc _) HBT.out) (by decide) hg'
          have hbw1 := own_ne (OwnF.ext hos2 ((Ext.refl _).alloc _)) (Ext.block ((Ext.refl _).alloc _) HBW.out) (by decide) hg'
          have hx1 := Ext.app (hxt.alloc _) hg' hos2 (Nat.le_refl _)
          have how3 := Pkt.own_kept (Pkt.own_ext how2 ((Ext.refl _).alloc _)) (Chg.ofGrown (S := fun b => (Value.slice os l.length cs).ownBlock = some b) hg' (fun _ h => h)) (fun b hb e => hdis b hb e)
          have hsz3 := hg'.size
          simp only [nblk_alloc] at hsz3
          have hdis3 : ∀ b, S1 b → v'.ownBlock ≠ some b := by
            intro b hb e
            rcases hat with h | h
            · exact hdis b hb (h ▸ e)
            · rw [h] at e
              have h1 := (hSt b hb).2.1
              simp only [Option.some.injEq] at e
              omega
          obtain ⟨on, cn, hve, _⟩ := (OwnF.rd (hf := Step.flen) ho').shape
          rw [show (l ++ [(⟨rv, iv, eg⟩ : Step)]).length = l.length + 1 from by simp] at hve
          subst hve
          clear hat hg'
          obtain ⟨wq, hwq, hbq, hcq, hsq⟩ := cell_set hbt1 1 (.slice on (l.length + 1) cn)
          simp only [List.setIfInBounds_toArray, List.set_cons_succ, List.set_cons_zero] at hbq
          have HWQ := Lib.hid hwq
          have HBQ := Lib.hid hbq
          have HBR := Lib.hid (hcq.other hbw1 hne)
          have hos3 := ho'.chg hcq (fun kk hkk e => absurd hkk (by rw [e]; exact ho'.ne hbt1 (by decide)))
          have how4 := Pkt.own_kept how3 hcq (fun b hb e => by have h1 := (hSv b hb).1; omega)
          have hxq := hx1.chg1 hcq hge
          have hSq : ∀ b, S1 b → (w.heap.size + 1 + 1 + 1) ≤ b ∧ b < wq.heap.size ∧ (Value.slice on (l.length + 1) cn).ownBlock ≠ some b := fun b hb => ⟨(hSt b hb).1, by have h1 := (hSt b hb).2.1; omega, hdis3 b hb⟩
          have fg1 := fr_of hbt1 1
          have ct1 := blk12 hbt1
          have ct2 := blk12 hbw1
          clear hbt1 hbw1 hwq hbq how3 ho' hx1 hsq hsz3
          go_upto_region 13 with (fail)
          rw [← HWQ.out]
          clear fg1 ct1 ct2
          try clear cf16
          try clear cf17
          try clear cf18
          try clear cf19
          try clear cf20
          have cf21 := blk2 (Ext.block (hz1.trans hxq) HB0.out.1)
          have cf22 := blk10 (Ext.block (hz1.trans hxq) HB0.out.2.1)
          have cf23 := blk12 (Ext.block (hz1.trans hxq) HB0.out.2.2)
          have cf24 := blk12 HBQ.out
          have cf25 := blk12 HBR.out
          go_wp2_with fail
          refine (s_RemoteEnd t _ _ rv eg _ (hk.ext ((hx0.trans hz1).trans hxq))).mono ?_
          rintro e w2 ⟨rfl, hz2⟩
          try clear cf21
          try clear cf22
          try clear cf23
          try clear cf24
          try clear cf25
          have cf26 := blk2 (Ext.block ((hz1.trans hxq).trans hz2) HB0.out.1)
          have cf27 := blk10 (Ext.block ((hz1.trans hxq).trans hz2) HB0.out.2.1)
          have cf28 := blk12 (Ext.block ((hz1.trans hxq).trans hz2) HB0.out.2.2)
          have cf29 := blk12 (Ext.block hz2 HBQ.out)
          have cf30 := blk12 (Ext.block hz2 HBR.out)
          go_wp2_with fail
          go_roundg f0
          case measure => rw [HF.out]; exact Nat.lt_succ_self _
          case rel =>
            have hfv := HF.out
            refine ⟨_, _, k + 1, z, (l ++ [(⟨rv, iv, eg⟩ : Step)]), rfl, rfl, by go_num, by omega, by omega, by omega, Lib.hid (by rw [← trav_go HV.out, ← HF.out]; exact HTR.out), HZS, by simp; omega, ?_, (hxq.trans hz2)⟩
            unfold TSt
            rw [show (l ++ [(⟨rv, iv, eg⟩ : Step)]).length = l.length + 1 from by simp]
            exact ⟨on, cn, p0, m0, d0, p1, m1, d1, S1, Ext.block hz2 HBQ.out, hos3.ext hz2, Pkt.own_ext how4 hz2, fun b hb => ⟨(hSq b hb).1, Nat.lt_of_lt_of_le (hSq b hb).2.1 hz2.size, by have h1 := (hSv b hb).1; omega, (hSq b hb).2.2⟩⟩
        · by_cases k1 : cd = 1
          · subst k1
            have cf31 := blk2 (Ext.block (hz1.trans hxt) HB0.out.1)
            have cf32 := blk10 (Ext.block (hz1.trans hxt) HB0.out.2.1)
            have cf33 := blk12 (Ext.block (hz1.trans hxt) HB0.out.2.2)
            have cf34 := blk12 HBT.out
            have cf35 := blk12 HBW.out
            go_wp2_with (at_builtin; go_loud (refine app1p E Step.flen rfl _ _ rfl (⟨rv, iv, eg⟩ : Step) (Step.one _) rfl (OwnF.ext hos2 ((Ext.refl _).alloc _)) rfl (by exact blk_list (Step.f (⟨rv, iv, eg⟩ : Step)) (blk_new wt _)) (by omega) (by unfold maxLen; omega) (by exact (hxt.alloc _).size) ?_))
            intro v' w' ho' hg' hat
            have hbt1 := own_ne (OwnF.ext hos2 ((Ext.refl _).alloc _)) (Ext.block ((Ext.refl _).alloc _) HBT.out) (by decide) hg'
            have hbw1 := own_ne (OwnF.ext hos2 ((Ext.refl _).alloc _)) (Ext.block ((Ext.refl _).alloc _) HBW.out) (by decide) hg'
            have hx1 := Ext.app (hxt.alloc _) hg' hos2 (Nat.le_refl _)
            have how3 := Pkt.own_kept (Pkt.own_ext how2 ((Ext.refl _).alloc _)) (Chg.ofGrown (S := fun b => (Value.slice os l.length cs).ownBlock = some b) hg' (fun _ h => h)) (fun b hb e => hdis b hb e)
            have hsz3 := hg'.size
            simp only [nblk_alloc] at hsz3
            have hdis3 : ∀ b, S1 b → v'.ownBlock ≠ some b := by
              intro b hb e
              rcases hat with h | h
              · exact hdis b hb (h ▸ e)
              · rw [h] at e
                have h1 := (hSt b hb).2.1
                simp only [Option.some.injEq] at e
                omega
            obtain ⟨on, cn, hve, _⟩ := (OwnF.rd (hf := Step.flen) ho').shape
            rw [show (l ++ [(⟨rv, iv, eg⟩ : Step)]).length = l.length + 1 from by simp] at hve
            subst hve
            clear hat hg'
            obtain ⟨wq, hwq, hbq, hcq, hsq⟩ := cell_set hbt1 1 (.slice on (l.length + 1) cn)
            simp only [List.setIfInBounds_toArray, List.set_cons_succ, List.set_cons_zero] at hbq
            have HWQ := Lib.hid hwq
            have HBQ := Lib.hid hbq
            have HBR := Lib.hid (hcq.other hbw1 hne)
            have hos3 := ho'.chg hcq (fun kk hkk e => absurd hkk (by rw [e]; exact ho'.ne hbt1 (by decide)))
            have how4 := Pkt.own_kept how3 hcq (fun b hb e => by have h1 := (hSv b hb).1; omega)
            have hxq := hx1.chg1 hcq hge
            have hSq : ∀ b, S1 b → (w.heap.size + 1 + 1 + 1) ≤ b ∧ b < wq.heap.size ∧ (Value.slice on (l.length + 1) cn).ownBlock ≠ some b := fun b hb => ⟨(hSt b hb).1, by have h1 := (hSt b hb).2.1; omega, hdis3 b hb⟩
            have fg1 := fr_of hbt1 1
            have ct1 := blk12 hbt1
            have ct2 := blk12 hbw1
            clear hbt1 hbw1 hwq hbq how3 ho' hx1 hsq hsz3
            go_upto_region 13 with (fail)
            rw [← HWQ.out]
            clear fg1 ct1 ct2
            try clear cf31
            try clear cf32
            try clear cf33
            try clear cf34
            try clear cf35
            have HE : Hid ((traverse t now dead x) = ⟨1, (l ++ [(⟨rv, iv, eg⟩ : Step)]), z⟩) := Lib.hid (by rw [← HTR.out, HF.out]; exact trav_del HV.out)
            have OT := Lib.hid (Trc.own_of (cd := 1) (lo := (w.heap.size + 1 + 1 + 1)) hos3 how4 hs1 hSq)
            have hR := Ext.block (hz1.trans hxq) HB0.out.2.2
            obtain ⟨wc, hwc, hrc, hcc, hsc⟩ := vd_set hR (.int .i64 1) ((.slice on (l.length + 1) cn)) (.int .i64 z.kind) (.int .i64 z.src) (.int .i64 z.dst) ((.slice p0 m0 d0)) (.int .i64 z.pi) (.int .i64 z.hi) (.int .i64 z.beta) (.int .i64 z.rid) (.int .i64 z.seq) ((.slice p1 m1 d1))
            have HOW := Lib.hid (Trc.own_kept OT.out hcc (fun b hb e => by have h1 := hb.1; omega))
            have HXX := Lib.hid (((hx0.trans hz1).trans hxq).chg1 hcc (by omega))
            have HWC := Lib.hid hwc
            have HRC := Lib.hid hrc
            have hsz2 : wq.heap.size = wc.heap.size := by rw [hsc]
            have hRF := fun o => fr_of hR o
            have gr0 := hRF 0
            have gr1 := hRF 1
            have gr2 := hRF 2
            have gr3 := hRF 3
            have gr4 := hRF 4
            have gr5 := hRF 5
            have gr6 := hRF 6
            have gr7 := hRF 7
            have gr8 := hRF 8
            have gr9 := hRF 9
            have gr10 := hRF 10
            have gr11 := hRF 11
            clear hRF hR  hwc hrc hcc hsc
            have cf36 := blk2 (Ext.block (hz1.trans hxq) HB0.out.1)
            have cf37 := blk10 (Ext.block (hz1.trans hxq) HB0.out.2.1)
            have cf38 := blk12 (Ext.block (hz1.trans hxq) HB0.out.2.2)
            have cf39 := blk12 HBQ.out
            have cf40 := blk12 HBR.out
            go_wp2_with fail
            rw [← HWC.out]
            clear gr0 gr1 gr2 gr3 gr4 gr5 gr6 gr7 gr8 gr9 gr10 gr11 cf36 cf37 cf38 cf39 cf40
            have cc := blk12 HRC.out
            refine bodyPost_ret (v := .agg #[.int .i64 1, (.slice on (l.length + 1) cn), .int .i64 z.kind, .int .i64 z.src, .int .i64 z.dst, (.slice p0 m0 d0), .int .i64 z.pi, .int .i64 z.hi, .int .i64 z.beta, .int .i64 z.rid, .int .i64 z.seq, (.slice p1 m1 d1)]) (by simp [results, Tryz.results9, go_sem, cc]) rfl ?_
            rw [HE.out]
            exact ⟨_, _, _, rfl, Trc.own_mono HOW.out (fun b hb => ⟨by have h1 := hb.1; omega, by have h2 := hb.2; omega⟩), HXX.out⟩
          · have HE : Hid ((traverse t now dead x) = ⟨cd, l, z⟩) := Lib.hid (by rw [← HTR.out, HF.out]; exact trav_bad HV.out k0 k1)
            have k2 : 1 < cd := by have := HNN.out; omega
            have k5 : (cd == 0) = false := by rw [beq_eq_false_iff_ne]; exact k0
            have k6 : (cd != 0) = true := by simp only [bne, k5]; rfl
            have k7 : (cd == 1) = false := by rw [beq_eq_false_iff_ne]; exact k1
            have k8 : (cd != 1) = true := by simp only [bne, k7]; rfl
            have OT := Lib.hid (Trc.own_of (cd := cd) (lo := (w.heap.size + 1 + 1 + 1)) hos2 how2 hs1 hSt)
            have hR := Ext.block (hz1.trans hxt) HB0.out.2.2
            obtain ⟨wc, hwc, hrc, hcc, hsc⟩ := vd_set hR (.int .i64 cd) ((.slice os l.length cs)) (.int .i64 z.kind) (.int .i64 z.src) (.int .i64 z.dst) ((.slice p0 m0 d0)) (.int .i64 z.pi) (.int .i64 z.hi) (.int .i64 z.beta) (.int .i64 z.rid) (.int .i64 z.seq) ((.slice p1 m1 d1))
            have HOW := Lib.hid (Trc.own_kept OT.out hcc (fun b hb e => by have h1 := hb.1; omega))
            have HXX := Lib.hid (((hx0.trans hz1).trans hxt).chg1 hcc (by omega))
            have HWC := Lib.hid hwc
            have HRC := Lib.hid hrc
            have hsz2 : wt.heap.size = wc.heap.size := by rw [hsc]
            have hRF := fun o => fr_of hR o
            have gr0 := hRF 0
            have gr1 := hRF 1
            have gr2 := hRF 2
            have gr3 := hRF 3
            have gr4 := hRF 4
            have gr5 := hRF 5
            have gr6 := hRF 6
            have gr7 := hRF 7
            have gr8 := hRF 8
            have gr9 := hRF 9
            have gr10 := hRF 10
            have gr11 := hRF 11
            clear hRF hR  hwc hrc hcc hsc
            have cf41 := blk2 (Ext.block (hz1.trans hxt) HB0.out.1)
            have cf42 := blk10 (Ext.block (hz1.trans hxt) HB0.out.2.1)
            have cf43 := blk12 (Ext.block (hz1.trans hxt) HB0.out.2.2)
            have cf44 := blk12 HBT.out
            have cf45 := blk12 HBW.out
            go_wp2_with fail
            rw [← HWC.out]
            clear gr0 gr1 gr2 gr3 gr4 gr5 gr6 gr7 gr8 gr9 gr10 gr11 cf41 cf42 cf43 cf44 cf45
            have cc := blk12 HRC.out
            refine bodyPost_ret (v := .agg #[.int .i64 cd, (.slice os l.length cs), .int .i64 z.kind, .int .i64 z.src, .int .i64 z.dst, (.slice p0 m0 d0), .int .i64 z.pi, .int .i64 z.hi, .int .i64 z.beta, .int .i64 z.rid, .int .i64 z.seq, (.slice p1 m1 d1)]) (by simp [results, Tryz.results9, go_sem, cc]) rfl ?_
            rw [HE.out]
            exact ⟨_, _, _, rfl, Trc.own_mono HOW.out (fun b hb => ⟨by have h1 := hb.1; omega, by have h2 := hb.2; omega⟩), HXX.out⟩
    · have k10 : ¬ (k : Int) < 30 := by omega
      have hg0 : gk = 0 := by omega
      have HE : Hid ((traverse t now dead x) = ⟨0, l, y⟩) := Lib.hid (by rw [← HTR.out, hg0]; rfl)
      have hSt : ∀ b, S0 b → (w.heap.size + 1 + 1 + 1) ≤ b ∧ b < wr.heap.size ∧ (Value.slice os l.length cs).ownBlock ≠ some b := fun b hb => ⟨(hS b hb).1, (hS b hb).2.1, (hS b hb).2.2.2⟩
      have OT := Lib.hid (Trc.own_of (cd := 0) (lo := (w.heap.size + 1 + 1 + 1)) hos hown hs1 hSt)
      have hR := Ext.block (hz1.trans hx) HB0.out.2.2
      obtain ⟨wc, hwc, hrc, hcc, hsc⟩ := vd_set hR (.int .i64 0) ((.slice os l.length cs)) (.int .i64 y.kind) (.int .i64 y.src) (.int .i64 y.dst) ((.slice o0 n0 c0)) (.int .i64 y.pi) (.int .i64 y.hi) (.int .i64 y.beta) (.int .i64 y.rid) (.int .i64 y.seq) ((.slice o1 n1 c1))
      have HOW := Lib.hid (Trc.own_kept OT.out hcc (fun b hb e => by have h1 := hb.1; omega))
      have HXX := Lib.hid (((hx0.trans hz1).trans hx).chg1 hcc (by omega))
      have HWC := Lib.hid hwc
      have HRC := Lib.hid hrc
      have hsz2 : wr.heap.size = wc.heap.size := by rw [hsc]
      have hRF := fun o => fr_of hR o
      have gr0 := hRF 0
      have gr1 := hRF 1
      have gr2 := hRF 2
      have gr3 := hRF 3
      have gr4 := hRF 4
      have gr5 := hRF 5
      have gr6 := hRF 6
      have gr7 := hRF 7
      have gr8 := hRF 8
      have gr9 := hRF 9
      have gr10 := hRF 10
      have gr11 := hRF 11
      clear hRF hR  hwc hrc hcc hsc
      have cf46 := blk2 (Ext.block (hz1.trans hx) HB0.out.1)
      have cf47 := blk10 (Ext.block (hz1.trans hx) HB0.out.2.1)
      have cf48 := blk12 (Ext.block (hz1.trans hx) HB0.out.2.2)
      have cf49 := blk12 HGB.out
      go_wp2_with fail
      rw [← HWC.out]
      clear gr0 gr1 gr2 gr3 gr4 gr5 gr6 gr7 gr8 gr9 gr10 gr11 cf46 cf47 cf48 cf49
      have cc := blk12 HRC.out
      refine bodyPost_ret (v := .agg #[.int .i64 0, (.slice os l.length cs), .int .i64 y.kind, .int .i64 y.src, .int .i64 y.dst, (.slice o0 n0 c0), .int .i64 y.pi, .int .i64 y.hi, .int .i64 y.beta, .int .i64 y.rid, .int .i64 y.seq, (.slice o1 n1 c1)]) (by simp [results, Tryz.results9, go_sem, cc]) rfl ?_
      rw [HE.out]
      exact ⟨_, _, _, rfl, Trc.own_mono HOW.out (fun b hb => ⟨by have h1 := hb.1; omega, by have h2 := hb.2; omega⟩), HXX.out⟩


set_option maxHeartbeats 1000000 in
theorem l_heldTrace (x : Trc) (h0 h1 h2 : Value) (k : Int) (w : World) (r0 : RdS Step.rep w h0 (Trc.marked k x).steps) (r1 : RdS Part.rep w h1 (Trc.marked k x).pkt.path.parts) (r2 : RdS Rep.byte w h2 (Trc.marked k x).pkt.pay) (hk : 0 ≤ k) (hm : k + x.cnt ≤ 4611686018427387904) :
    Calls Tryz.prog 22 #[.agg #[.int .i64 x.code, h0, .int .i64 x.pkt.kind, .int .i64 x.pkt.src, .int .i64 x.pkt.dst, h1, .int .i64 x.pkt.pi, .int .i64 x.pkt.hi, .int .i64 x.pkt.beta, .int .i64 x.pkt.rid, .int .i64 x.pkt.seq, h2], .int .i64 k] w fun e w' => e = .returned (.int .i64 (k + x.cnt)) ∧ Ext w w' := by
  have hce : k + x.cnt = k + 3 * x.steps.length + x.pkt.cnt := by unfold Trc.cnt; omega
  have hcn := Pkt.cnt_nn x.pkt
  rw [hce] at hm ⊢
  have hx0 : Ext w (w.alloc (.cells #[.int .i64 x.code, h0, .int .i64 x.pkt.kind, .int .i64 x.pkt.src, .int .i64 x.pkt.dst, h1, .int .i64 x.pkt.pi, .int .i64 x.pkt.hi, .int .i64 x.pkt.beta, .int .i64 x.pkt.rid, .int .i64 x.pkt.seq, h2] 42)) := (Ext.refl _).alloc _
  have HB := Lib.hid (blk_new w (.cells #[.int .i64 x.code, h0, .int .i64 x.pkt.kind, .int .i64 x.pkt.src, .int .i64 x.pkt.dst, h1, .int .i64 x.pkt.pi, .int .i64 x.pkt.hi, .int .i64 x.pkt.beta, .int .i64 x.pkt.rid, .int .i64 x.pkt.seq, h2] 42))
  go_enter Tryz.func22, Tryz.ntmps22
  go_wp2_with fail
  refine (l_heldStepS x.steps.length _ k _ (r0.ext hx0) hk (by omega)).mono ?_
  rintro e w1 ⟨rfl, k1⟩
  have hc := blk12 (k1.block HB.out)
  have hp : 0 ≤ k + 3 * (x.steps.length : Int) := by omega
  have hp' : ¬ k + 3 * (x.steps.length : Int) < 0 := by omega
  go_wp2_with fail
  refine (l_heldPacket x.pkt _ _ (k + 3 * x.steps.length) _ (r1.ext (hx0.trans k1)) (r2.ext (hx0.trans k1)) hp hm).mono ?_
  rintro e w2 ⟨rfl, k2⟩
  have hp2 : ¬ k + 3 * (x.steps.length : Int) + x.pkt.cnt < 0 := by omega
  go_wp2_with fail
  go_ret
  exact ⟨ret_int (by omega), (hx0.trans k1).trans k2⟩

theorem trav_pp (t : Topo) (now : Int) (dead : List Int) : ∀ (f : Nat) (r inn : Int) (x : Pkt) (l : List Step), (trav t now dead f r inn x l).pkt.path = x.path ∧ (trav t now dead f r inn x l).pkt.pay = x.pay ∧ (trav t now dead f r inn x l).steps.length ≤ l.length + f
  | 0, _, _, x, l => ⟨rfl, rfl, Nat.le_refl _⟩
  | f + 1, r, inn, x, l => by
    have h := fw_pp t r now (failedIfs t dead r) inn x
    unfold trav
    split
    · have k := trav_pp t now dead f (remEnd t r (forward t r now (failedIfs t dead r) inn x).eg).1 (remEnd t r (forward t r now (failedIfs t dead r) inn x).eg).2 (forward t r now (failedIfs t dead r) inn x).pkt (l ++ [⟨r, inn, (forward t r now (failedIfs t dead r) inn x).eg⟩])
      refine ⟨k.1.trans h.1, k.2.1.trans h.2, ?_⟩
      have k3 := k.2.2
      rw [List.length_append, List.length_singleton] at k3
      omega
    · split
      · exact ⟨h.1, h.2, by rw [List.length_append, List.length_singleton]; omega⟩
      · exact ⟨h.1, h.2, by show l.length ≤ _; omega⟩
theorem traverse_cnt (t : Topo) (now : Int) (dead : List Int) (x : Pkt) : (traverse t now dead x).cnt ≤ 90 + x.cnt ∧ 0 ≤ (traverse t now dead x).cnt := by
  have h := trav_pp t now dead 30 x.src 0 x []
  have hn := Pkt.cnt_nn x
  unfold traverse Trc.cnt
  have hc : (trav t now dead 30 x.src 0 x []).pkt.cnt = x.cnt := by unfold Pkt.cnt; rw [h.1, h.2.1]
  rw [hc]
  have h3 := h.2.2
  simp only [List.length_nil] at h3
  omega

theorem lmF_IntS (l : List Int) (v : Value) (k : Int) (S : Nat → Prop) (w : World) (o : ((Own.flat intF 1 intFlen 3)).own S w v l) (h0 : 0 ≤ k) (h1 : k + l.length ≤ 4611686018427387904) :
    Calls Tryz.prog 19 #[v, .int .i64 k] w fun e w' => e = .returned (.int .i64 (k + l.length)) ∧ ((Own.flat intF 1 intFlen 3)).own S w' v (markL intMk 1 (k) (l).length) ∧ Chg S w w' :=
  (l_markIntS l v k 0 w o.1 h0 (by omega)).mono fun _ _ ⟨he, ho, hg⟩ => ⟨he.trans (by rw [Int.one_mul]), ⟨ho, o.2⟩, Chg.ofGrown hg o.2⟩
set_option maxRecDepth 100000 in
set_option maxHeartbeats 8000000 in
theorem l_FnExactTraverse (a0 : Topo) (v0h0 : Value) (v0h1 : Value) (a1 : Int) (a2 : List Int) (v2h0 : Value) (a3 : Pkt) (v3h0 : Value) (v3h1 : Value) (w : World) (r0h0 : RdS ASd.rep w v0h0 a0.ases) (r0h1 : RdS Lnk.rep w v0h1 a0.links) (_ : a0.ok) (_ : I64 a1) (r2h0 : RdS Rep.int w v2h0 a2) (_ : ∀ x ∈ a2, I64 x) (r3h0 : RdS Part.rep w v3h0 a3.path.parts) (r3h1 : RdS Rep.byte w v3h1 a3.pay) (_ : a3.ok) :
    Calls Tryz.prog 3 #[.agg #[v0h0, v0h1], .int .i64 a1, v2h0, .agg #[.int .i64 a3.kind, .int .i64 a3.src, .int .i64 a3.dst, v3h0, .int .i64 a3.pi, .int .i64 a3.hi, .int .i64 a3.beta, .int .i64 a3.rid, .int .i64 a3.seq, v3h1]] w fun e w' => e = .returned (.bool true) ∧ Ext w w' := by
  go_enter Tryz.func3, Tryz.ntmps3
  have e0 : Ext w (w.alloc (.cells #[v0h0, v0h1] 25)) := (Ext.refl _).alloc _
  have hB0 := blk_new w (.cells #[v0h0, v0h1] 25)
  have HB0 := Lib.hid hB0; clear hB0
  have e1 : Ext (w.alloc (.cells #[v0h0, v0h1] 25)) ((w.alloc (.cells #[v0h0, v0h1] 25)).alloc (.cells #[.int .i64 a3.kind, .int .i64 a3.src, .int .i64 a3.dst, v3h0, .int .i64 a3.pi, .int .i64 a3.hi, .int .i64 a3.beta, .int .i64 a3.rid, .int .i64 a3.seq, v3h1] 32)) := (Ext.refl _).alloc _
  have hB1 := blk_new (w.alloc (.cells #[v0h0, v0h1] 25)) (.cells #[.int .i64 a3.kind, .int .i64 a3.src, .int .i64 a3.dst, v3h0, .int .i64 a3.pi, .int .i64 a3.hi, .int .i64 a3.beta, .int .i64 a3.rid, .int .i64 a3.seq, v3h1] 32)
  simp only [nblk_alloc] at hB1
  have HB1 := Lib.hid hB1; clear hB1
  obtain ⟨vp2, vc2, rfl, vl2⟩ := r2h0.shape; clear vl2
  by_cases z2 : 1048576 < a2.length
  · have zz : (1048576 : Int) < (a2.length : Int) := by omega
    go_wp2_with fail
    go_ret
    exact ⟨rfl, (e0.trans e1)⟩
  have zz2 : ¬ (1048576 : Int) < (a2.length : Int) := by omega
  have hc1 := blk2 (Ext.block e1 HB0.out)
  go_wp2_with fail
  refine (l_szTopology a0 v0h0 v0h1 (1048576) _ (r0h0.ext (e0.trans e1)) (r0h1.ext (e0.trans e1)) (by omega) (by omega)).mono ?_
  rintro e w3 ⟨rfl, h3⟩
  rcases Int.lt_or_le (1048576 - (a0.size : Int)) 0 with z0 | z0
  · rw [show szL (1048576) a0.size = -1 from if_pos z0]
    go_wp2_with fail
    go_ret
    exact ⟨rfl, ((e0.trans e1).trans h3)⟩
  rw [show szL (1048576) a0.size = 1048576 - (a0.size : Int) from if_neg (by omega)]
  have hc3 := blk2 (Ext.block (e1.trans h3) HB0.out)
  have hc4 := blk10 (Ext.block h3 HB1.out)
  go_wp2_with fail
  refine (l_szPacket a3 v3h0 v3h1 (1048576 - (a0.size : Int)) _ (r3h0.ext ((e0.trans e1).trans h3)) (r3h1.ext ((e0.trans e1).trans h3)) (by omega) (by omega)).mono ?_
  rintro e w4 ⟨rfl, h4⟩
  rcases Int.lt_or_le (1048576 - (a0.size : Int) - (a3.size : Int)) 0 with z3 | z3
  · rw [show szL (1048576 - (a0.size : Int)) a3.size = -1 from if_pos z3]
    go_wp2_with fail
    go_ret
    exact ⟨rfl, (((e0.trans e1).trans h3).trans h4)⟩
  rw [show szL (1048576 - (a0.size : Int)) a3.size = 1048576 - (a0.size : Int) - (a3.size : Int) from if_neg (by omega)]
  have y0 : a0.size ≤ 1048576 := by omega
  have y2 : a2.length ≤ 1048576 := by omega
  have y3 : a3.size ≤ 1048576 := by omega
  have ym0 := Topo.cnt_le y0
  obtain ⟨ym0a, ym0b⟩ := ym0
  have ym3 := Pkt.cnt_le y3
  obtain ⟨ym3a, ym3b⟩ := ym3
  have yr0 : 0 ≤ (traverse a0 a1 a2 a3).cnt ∧ (traverse a0 a1 a2 a3).cnt ≤ 5243000 := by
    have h := traverse_cnt a0 a1 a2 a3
    omega
  obtain ⟨yr0a, yr0b⟩ := yr0
  have hc5 := blk2 (Ext.block ((e1.trans h3).trans h4) HB0.out)
  have hc6 := blk10 (Ext.block (h3.trans h4) HB1.out)
  go_upto_region 10 with (fail)
  go_cut [10] (fun vb wx => ∃ g spu0 spu1 spu2, vb = .pointer (some ⟨g, 0, none⟩) ∧ wx.heap[g]? = some (.cells #[.int .i64 (traverse a0 a1 a2 a3).code, spu0, .int .i64 (traverse a0 a1 a2 a3).pkt.kind, .int .i64 (traverse a0 a1 a2 a3).pkt.src, .int .i64 (traverse a0 a1 a2 a3).pkt.dst, spu1, .int .i64 (traverse a0 a1 a2 a3).pkt.pi, .int .i64 (traverse a0 a1 a2 a3).pkt.hi, .int .i64 (traverse a0 a1 a2 a3).pkt.beta, .int .i64 (traverse a0 a1 a2 a3).pkt.rid, .int .i64 (traverse a0 a1 a2 a3).pkt.seq, spu2] 42) ∧ w4.heap.size ≤ g ∧ Trc.own (rng w4.heap.size wx.heap.size) wx spu0 spu1 spu2 (traverse a0 a1 a2 a3) ∧ Ext w4 wx)
  case first =>
    refine planStep (.blk [0, 2, 3, 5] (.two 1 8 (.two 4 8 (.two 6 8 (.two 7 8 (.one 8 (.one 9 .done)) (.one 7 (.one 9 .done))) (.one 6 (.one 7 (.one 9 .done)))) (.one 4 (.one 6 (.one 7 (.one 9 .done))))) (.one 1 (.one 4 (.one 6 (.one 7 (.one 9 .done))))))) [9] (by kernel_rfl) (by kernel_rfl) ?_
    refine blkStep (fun K HK => ?_)
    simp only [pick, List.filterMap_cons, List.filterMap_nil, List.getElem?_toArray, List.getElem?_cons_zero, List.getElem?_cons_succ]
    go_wp2_with fail
    refine HK.out _ _ ?_
    clear HK K
    refine twoStep ?_ ?_
    · refine oneStep (fun K HK => ?_)
      simp only [pick, List.filterMap_cons, List.filterMap_nil, List.getElem?_toArray, List.getElem?_cons_zero, List.getElem?_cons_succ]
      go_wp2_with fail
      refine (l_toTopologyO a0 v0h0 v0h1 _ (r0h0.ext ((((e0.trans e1).trans h3).trans h4).trans (Ext.refl _).drew)) (r0h1.ext ((((e0.trans e1).trans h3).trans h4).trans (Ext.refl _).drew)) y0).mono ?_
      rintro e spw0 ⟨sp0v0, sp0v1, rfl, sp0o, sph0⟩
      have hc7 := blk2 (Ext.block (((e1.trans h3).trans h4).trans ((Ext.refl _).drew.trans sph0)) HB0.out)
      have hc8 := blk10 (Ext.block ((h3.trans h4).trans ((Ext.refl _).drew.trans sph0)) HB1.out)
      go_wp2_with fail
      refine HK.out _ _ sph0 ?_
      clear HK K
      refine twoStep ?_ ?_
      · refine oneStep (fun K HK => ?_)
        simp only [pick, List.filterMap_cons, List.filterMap_nil, List.getElem?_toArray, List.getElem?_cons_zero, List.getElem?_cons_succ]
        go_wp2_with fail
        refine (l_toIntS a2 _ _ (r2h0.ext ((((e0.trans e1).trans h3).trans h4).trans ((Ext.refl _).drew.trans sph0))) y2).mono ?_
        rintro e spw1 ⟨sp2v0, rfl, sp2o, sph1⟩
        have sp2oq := Own.ofF (hf := intFlen) sp2o
        have hc9 := blk2 (Ext.block (((e1.trans h3).trans h4).trans (((Ext.refl _).drew.trans sph0).trans sph1)) HB0.out)
        have hc10 := blk10 (Ext.block ((h3.trans h4).trans (((Ext.refl _).drew.trans sph0).trans sph1)) HB1.out)
        go_wp2_with fail
        refine HK.out _ _ sph1 ?_
        clear HK K
        refine twoStep ?_ ?_
        · refine oneStep (fun K HK => ?_)
          simp only [pick, List.filterMap_cons, List.filterMap_nil, List.getElem?_toArray, List.getElem?_cons_zero, List.getElem?_cons_succ]
          go_wp2_with fail
          refine (l_toPacket a3 v3h0 v3h1 _ (r3h0.ext ((((e0.trans e1).trans h3).trans h4).trans (((Ext.refl _).drew.trans sph0).trans sph1))) (r3h1.ext ((((e0.trans e1).trans h3).trans h4).trans (((Ext.refl _).drew.trans sph0).trans sph1))) y3).mono ?_
          rintro e spw2 ⟨sp3v0, sp3v1, rfl, sp3o, sph2⟩
          have hc11 := blk2 (Ext.block (((e1.trans h3).trans h4).trans ((((Ext.refl _).drew.trans sph0).trans sph1).trans sph2)) HB0.out)
          have hc12 := blk10 (Ext.block ((h3.trans h4).trans ((((Ext.refl _).drew.trans sph0).trans sph1).trans sph2)) HB1.out)
          go_wp2_with fail
          refine HK.out _ _ sph2 ?_
          clear HK K
          refine twoStep ?_ ?_
          · refine oneStep (fun K HK => ?_)
            simp only [pick, List.filterMap_cons, List.filterMap_nil, List.getElem?_toArray, List.getElem?_cons_zero, List.getElem?_cons_succ]
            go_wp2_with fail
            refine (s_Traverse a0 sp0v0 sp0v1 a1 a2 sp2v0 a3 sp3v0 sp3v1 _ (Topo.own_rd0 (Topo.own_ext sp0o (sph1.trans sph2))) (Topo.own_rd1 (Topo.own_ext sp0o (sph1.trans sph2))) (((Own.flat intF 1 intFlen 3)).rd (Own.ext sp2oq sph2)) (Pkt.own_rd0 (Pkt.own_ext sp3o (Ext.refl _))) (Pkt.own_rd1 (Pkt.own_ext sp3o (Ext.refl _))) y0 y3).mono ?_
            rintro e spw3 ⟨spu0, spu1, spu2, rfl, spoo, sph3⟩
            obtain ⟨spp0, spc0, rfl, spl0⟩ := (Trc.own_rd0 spoo).shape; clear spl0
            obtain ⟨spp1, spc1, rfl, spl1⟩ := (Trc.own_rd1 spoo).shape; clear spl1
            obtain ⟨spp2, spc2, rfl, spl2⟩ := (Trc.own_rd2 spoo).shape; clear spl2
            have hc13 := blk2 (Ext.block (((e1.trans h3).trans h4).trans (((((Ext.refl _).drew.trans sph0).trans sph1).trans sph2).trans sph3)) HB0.out)
            have hc14 := blk10 (Ext.block ((h3.trans h4).trans (((((Ext.refl _).drew.trans sph0).trans sph1).trans sph2).trans sph3)) HB1.out)
            go_wp2_with fail
            refine HK.out _ _ sph3 ?_
            clear HK K
            refine oneStep (fun K HK => ?_)
            simp only [pick, List.filterMap_cons, List.filterMap_nil, List.getElem?_toArray, List.getElem?_cons_zero, List.getElem?_cons_succ]
            go_wp2_with fail
            refine HK.out _ _ ((Ext.refl _).alloc _) ?_
            clear HK K
            refine badStep (by kernel_rfl) (fun K HK => ?_)
            simp only [pick, List.filterMap_cons, List.filterMap_nil, List.getElem?_toArray, List.getElem?_cons_zero, List.getElem?_cons_succ]
            go_wp2_with fail
            refine HK.out _ _ ?_
            clear HK K
            refine doneStep (by kernel_rfl) ?_
            go_wp2_with fail
            go_meet
            exact ⟨_, _, _, _, rfl, blk_new _ _, (((((Ext.refl _).drew.trans sph0).trans sph1).trans sph2).trans sph3).size, Trc.own_mono (Trc.own_ext spoo ((Ext.refl _).alloc _)) (fun b hb => ⟨by have h1 := hb.1; exact Nat.le_trans ((((Ext.refl _).drew.trans sph0).trans sph1).trans sph2).size h1, Nat.lt_of_lt_of_le hb.2 ((Ext.refl _).alloc _).size⟩), (((((Ext.refl _).drew.trans sph0).trans sph1).trans sph2).trans sph3).alloc _⟩
          · have sphba := blk_new spw2 (.cells #[.int .i64 0, .slice none 0 0, .int .i64 0, .int .i64 0, .int .i64 0, .slice none 0 0, .int .i64 0, .int .i64 0, .int .i64 0, .int .i64 0, .int .i64 0, .slice none 0 0] 42)
            have spHBA := Lib.hid sphba; clear sphba
            refine oneStep (fun K HK => ?_)
            simp only [pick, List.filterMap_cons, List.filterMap_nil, List.getElem?_toArray, List.getElem?_cons_zero, List.getElem?_cons_succ]
            go_wp2_with fail
            refine HK.out _ _ ((Ext.refl _).alloc _) ?_
            clear HK K
            refine oneStep (fun K HK => ?_)
            simp only [pick, List.filterMap_cons, List.filterMap_nil, List.getElem?_toArray, List.getElem?_cons_zero, List.getElem?_cons_succ]
            go_wp2_with fail
            refine (s_Traverse a0 sp0v0 sp0v1 a1 a2 sp2v0 a3 sp3v0 sp3v1 _ (Topo.own_rd0 (Topo.own_ext sp0o ((sph1.trans sph2).trans ((Ext.refl _).alloc _)))) (Topo.own_rd1 (Topo.own_ext sp0o ((sph1.trans sph2).trans ((Ext.refl _).alloc _)))) (((Own.flat intF 1 intFlen 3)).rd (Own.ext sp2oq (sph2.trans ((Ext.refl _).alloc _)))) (Pkt.own_rd0 (Pkt.own_ext sp3o ((Ext.refl _).alloc _))) (Pkt.own_rd1 (Pkt.own_ext sp3o ((Ext.refl _).alloc _))) y0 y3).mono ?_
            rintro e spw3 ⟨spu0, spu1, spu2, rfl, spoo, sph3⟩
            obtain ⟨spp0, spc0, rfl, spl0⟩ := (Trc.own_rd0 spoo).shape; clear spl0
            obtain ⟨spp1, spc1, rfl, spl1⟩ := (Trc.own_rd1 spoo).shape; clear spl1
            obtain ⟨spp2, spc2, rfl, spl2⟩ := (Trc.own_rd2 spoo).shape; clear spl2
            have hc15 := blk2 (Ext.block (((e1.trans h3).trans h4).trans ((((((Ext.refl _).drew.trans sph0).trans sph1).trans sph2).trans ((Ext.refl _).alloc _)).trans sph3)) HB0.out)
            have hc16 := blk10 (Ext.block ((h3.trans h4).trans ((((((Ext.refl _).drew.trans sph0).trans sph1).trans sph2).trans ((Ext.refl _).alloc _)).trans sph3)) HB1.out)
            go_wp2_with fail
            refine HK.out _ _ sph3 ?_
            clear HK K
            have sphbs := Ext.block sph3 spHBA.out
            have spcs := blk12 sphbs
            have spf0 := fr_of sphbs 0
            have spf1 := fr_of sphbs 1
            have spf2 := fr_of sphbs 2
            have spf3 := fr_of sphbs 3
            have spf4 := fr_of sphbs 4
            have spf5 := fr_of sphbs 5
            have spf6 := fr_of sphbs 6
            have spf7 := fr_of sphbs 7
            have spf8 := fr_of sphbs 8
            have spf9 := fr_of sphbs 9
            have spf10 := fr_of sphbs 10
            have spf11 := fr_of sphbs 11
            have spHBS := Lib.hid sphbs; clear sphbs
            refine badStep (by kernel_rfl) (fun K HK => ?_)
            simp only [pick, List.filterMap_cons, List.filterMap_nil, List.getElem?_toArray, List.getElem?_cons_zero, List.getElem?_cons_succ]
            go_wp2_with fail
            refine HK.out _ _ ?_
            clear HK K
            refine doneStep (by kernel_rfl) ?_
            go_wp2_with fail
            go_meet
            obtain ⟨wq, hwq, hbq, hcq, hsq⟩ := vd_set spHBS.out (.int .i64 (traverse a0 a1 a2 a3).code) ((.slice spp0 ((traverse a0 a1 a2 a3).steps).length spc0)) (.int .i64 (traverse a0 a1 a2 a3).pkt.kind) (.int .i64 (traverse a0 a1 a2 a3).pkt.src) (.int .i64 (traverse a0 a1 a2 a3).pkt.dst) ((.slice spp1 ((traverse a0 a1 a2 a3).pkt.path.parts).length spc1)) (.int .i64 (traverse a0 a1 a2 a3).pkt.pi) (.int .i64 (traverse a0 a1 a2 a3).pkt.hi) (.int .i64 (traverse a0 a1 a2 a3).pkt.beta) (.int .i64 (traverse a0 a1 a2 a3).pkt.rid) (.int .i64 (traverse a0 a1 a2 a3).pkt.seq) ((.slice spp2 ((traverse a0 a1 a2 a3).pkt.pay).length spc2))
            rw [← hwq]
            exact ⟨_, _, _, _, rfl, hbq, ((((Ext.refl _).drew.trans sph0).trans sph1).trans sph2).size, Trc.own_mono (Trc.own_kept (Trc.own_ext spoo (Ext.refl _)) hcq (fun b hb e => absurd hb.1 (by rw [e]; exact Nat.not_le.2 (Nat.lt_of_lt_of_le (blk_lt spHBA.out) (Ext.refl _).size)))) (fun b hb => ⟨Nat.le_trans (((((Ext.refl _).drew.trans sph0).trans sph1).trans sph2).trans ((Ext.refl _).alloc _)).size hb.1, by rw [hsq]; exact Nat.lt_of_lt_of_le hb.2 (Ext.refl _).size⟩), ((((((Ext.refl _).drew.trans sph0).trans sph1).trans sph2).trans ((Ext.refl _).alloc _)).trans sph3).chg1 hcq ((((Ext.refl _).drew.trans sph0).trans sph1).trans sph2).size⟩
        · have sphba := blk_new spw1 (.cells #[.int .i64 0, .slice none 0 0, .int .i64 0, .int .i64 0, .int .i64 0, .slice none 0 0, .int .i64 0, .int .i64 0, .int .i64 0, .int .i64 0, .int .i64 0, .slice none 0 0] 42)
          have spHBA := Lib.hid sphba; clear sphba
          refine oneStep (fun K HK => ?_)
          simp only [pick, List.filterMap_cons, List.filterMap_nil, List.getElem?_toArray, List.getElem?_cons_zero, List.getElem?_cons_succ]
          go_wp2_with fail
          refine HK.out _ _ ((Ext.refl _).alloc _) ?_
          clear HK K
          refine oneStep (fun K HK => ?_)
          simp only [pick, List.filterMap_cons, List.filterMap_nil, List.getElem?_toArray, List.getElem?_cons_zero, List.getElem?_cons_succ]
          go_wp2_with fail
          refine (l_toPacket a3 v3h0 v3h1 _ (r3h0.ext ((((e0.trans e1).trans h3).trans h4).trans ((((Ext.refl _).drew.trans sph0).trans sph1).trans ((Ext.refl _).alloc _)))) (r3h1.ext ((((e0.trans e1).trans h3).trans h4).trans ((((Ext.refl _).drew.trans sph0).trans sph1).trans ((Ext.refl _).alloc _)))) y3).mono ?_
          rintro e spw2 ⟨sp3v0, sp3v1, rfl, sp3o, sph2⟩
          have hc17 := blk2 (Ext.block (((e1.trans h3).trans h4).trans (((((Ext.refl _).drew.trans sph0).trans sph1).trans ((Ext.refl _).alloc _)).trans sph2)) HB0.out)
          have hc18 := blk10 (Ext.block ((h3.trans h4).trans (((((Ext.refl _).drew.trans sph0).trans sph1).trans ((Ext.refl _).alloc _)).trans sph2)) HB1.out)
          go_wp2_with fail
          refine HK.out _ _ sph2 ?_
          clear HK K
          refine oneStep (fun K HK => ?_)
          simp only [pick, List.filterMap_cons, List.filterMap_nil, List.getElem?_toArray, List.getElem?_cons_zero, List.getElem?_cons_succ]
          go_wp2_with fail
          refine (s_Traverse a0 sp0v0 sp0v1 a1 a2 sp2v0 a3 sp3v0 sp3v1 _ (Topo.own_rd0 (Topo.own_ext sp0o ((sph1.trans ((Ext.refl _).alloc _)).trans sph2))) (Topo.own_rd1 (Topo.own_ext sp0o ((sph1.trans ((Ext.refl _).alloc _)).trans sph2))) (((Own.flat intF 1 intFlen 3)).rd (Own.ext sp2oq (((Ext.refl _).alloc _).trans sph2))) (Pkt.own_rd0 (Pkt.own_ext sp3o (Ext.refl _))) (Pkt.own_rd1 (Pkt.own_ext sp3o (Ext.refl _))) y0 y3).mono ?_
          rintro e spw3 ⟨spu0, spu1, spu2, rfl, spoo, sph3⟩
          obtain ⟨spp0, spc0, rfl, spl0⟩ := (Trc.own_rd0 spoo).shape; clear spl0
          obtain ⟨spp1, spc1, rfl, spl1⟩ := (Trc.own_rd1 spoo).shape; clear spl1
          obtain ⟨spp2, spc2, rfl, spl2⟩ := (Trc.own_rd2 spoo).shape; clear spl2
          have hc19 := blk2 (Ext.block (((e1.trans h3).trans h4).trans ((((((Ext.refl _).drew.trans sph0).trans sph1).trans ((Ext.refl _).alloc _)).trans sph2).trans sph3)) HB0.out)
          have hc20 := blk10 (Ext.block ((h3.trans h4).trans ((((((Ext.refl _).drew.trans sph0).trans sph1).trans ((Ext.refl _).alloc _)).trans sph2).trans sph3)) HB1.out)
          go_wp2_with fail
          refine HK.out _ _ sph3 ?_
          clear HK K
          have sphbs := Ext.block (sph2.trans sph3) spHBA.out
          have spcs := blk12 sphbs
          have spf0 := fr_of sphbs 0
          have spf1 := fr_of sphbs 1
          have spf2 := fr_of sphbs 2
          have spf3 := fr_of sphbs 3
          have spf4 := fr_of sphbs 4
          have spf5 := fr_of sphbs 5
          have spf6 := fr_of sphbs 6
          have spf7 := fr_of sphbs 7
          have spf8 := fr_of sphbs 8
          have spf9 := fr_of sphbs 9
          have spf10 := fr_of sphbs 10
          have spf11 := fr_of sphbs 11
          have spHBS := Lib.hid sphbs; clear sphbs
          refine badStep (by kernel_rfl) (fun K HK => ?_)
          simp only [pick, List.filterMap_cons, List.filterMap_nil, List.getElem?_toArray, List.getElem?_cons_zero, List.getElem?_cons_succ]
          go_wp2_with fail
          refine HK.out _ _ ?_
          clear HK K
          refine doneStep (by kernel_rfl) ?_
          go_wp2_with fail
          go_meet
          obtain ⟨wq, hwq, hbq, hcq, hsq⟩ := vd_set spHBS.out (.int .i64 (traverse a0 a1 a2 a3).code) ((.slice spp0 ((traverse a0 a1 a2 a3).steps).length spc0)) (.int .i64 (traverse a0 a1 a2 a3).pkt.kind) (.int .i64 (traverse a0 a1 a2 a3).pkt.src) (.int .i64 (traverse a0 a1 a2 a3).pkt.dst) ((.slice spp1 ((traverse a0 a1 a2 a3).pkt.path.parts).length spc1)) (.int .i64 (traverse a0 a1 a2 a3).pkt.pi) (.int .i64 (traverse a0 a1 a2 a3).pkt.hi) (.int .i64 (traverse a0 a1 a2 a3).pkt.beta) (.int .i64 (traverse a0 a1 a2 a3).pkt.rid) (.int .i64 (traverse a0 a1 a2 a3).pkt.seq) ((.slice spp2 ((traverse a0 a1 a2 a3).pkt.pay).length spc2))
          rw [← hwq]
          exact ⟨_, _, _, _, rfl, hbq, (((Ext.refl _).drew.trans sph0).trans sph1).size, Trc.own_mono (Trc.own_kept (Trc.own_ext spoo (Ext.refl _)) hcq (fun b hb e => absurd hb.1 (by rw [e]; exact Nat.not_le.2 (Nat.lt_of_lt_of_le (blk_lt spHBA.out) sph2.size)))) (fun b hb => ⟨Nat.le_trans (((((Ext.refl _).drew.trans sph0).trans sph1).trans ((Ext.refl _).alloc _)).trans sph2).size hb.1, by rw [hsq]; exact Nat.lt_of_lt_of_le hb.2 (Ext.refl _).size⟩), ((((((Ext.refl _).drew.trans sph0).trans sph1).trans ((Ext.refl _).alloc _)).trans sph2).trans sph3).chg1 hcq (((Ext.refl _).drew.trans sph0).trans sph1).size⟩
      · have sphba := blk_new spw0 (.cells #[.int .i64 0, .slice none 0 0, .int .i64 0, .int .i64 0, .int .i64 0, .slice none 0 0, .int .i64 0, .int .i64 0, .int .i64 0, .int .i64 0, .int .i64 0, .slice none 0 0] 42)
        have spHBA := Lib.hid sphba; clear sphba
        refine oneStep (fun K HK => ?_)
        simp only [pick, List.filterMap_cons, List.filterMap_nil, List.getElem?_toArray, List.getElem?_cons_zero, List.getElem?_cons_succ]
        go_wp2_with fail
        refine HK.out _ _ ((Ext.refl _).alloc _) ?_
        clear HK K
        refine oneStep (fun K HK => ?_)
        simp only [pick, List.filterMap_cons, List.filterMap_nil, List.getElem?_toArray, List.getElem?_cons_zero, List.getElem?_cons_succ]
        go_wp2_with fail
        refine (l_toIntS a2 _ _ (r2h0.ext ((((e0.trans e1).trans h3).trans h4).trans (((Ext.refl _).drew.trans sph0).trans ((Ext.refl _).alloc _)))) y2).mono ?_
        rintro e spw1 ⟨sp2v0, rfl, sp2o, sph1⟩
        have sp2oq := Own.ofF (hf := intFlen) sp2o
        have hc21 := blk2 (Ext.block (((e1.trans h3).trans h4).trans ((((Ext.refl _).drew.trans sph0).trans ((Ext.refl _).alloc _)).trans sph1)) HB0.out)
        have hc22 := blk10 (Ext.block ((h3.trans h4).trans ((((Ext.refl _).drew.trans sph0).trans ((Ext.refl _).alloc _)).trans sph1)) HB1.out)
        go_wp2_with fail
        refine HK.out _ _ sph1 ?_
        clear HK K
        refine oneStep (fun K HK => ?_)
        simp only [pick, List.filterMap_cons, List.filterMap_nil, List.getElem?_toArray, List.getElem?_cons_zero, List.getElem?_cons_succ]
        go_wp2_with fail
        refine (l_toPacket a3 v3h0 v3h1 _ (r3h0.ext ((((e0.trans e1).trans h3).trans h4).trans ((((Ext.refl _).drew.trans sph0).trans ((Ext.refl _).alloc _)).trans sph1))) (r3h1.ext ((((e0.trans e1).trans h3).trans h4).trans ((((Ext.refl _).drew.trans sph0).trans ((Ext.refl _).alloc _)).trans sph1))) y3).mono ?_
        rintro e spw2 ⟨sp3v0, sp3v1, rfl, sp3o, sph2⟩
        have hc23 := blk2 (Ext.block (((e1.trans h3).trans h4).trans (((((Ext.refl _).drew.trans sph0).trans ((Ext.refl _).alloc _)).trans sph1).trans sph2)) HB0.out)
        have hc24 := blk10 (Ext.block ((h3.trans h4).trans (((((Ext.refl _).drew.trans sph0).trans ((Ext.refl _).alloc _)).trans sph1).trans sph2)) HB1.out)
        go_wp2_with fail
        refine HK.out _ _ sph2 ?_
        clear HK K
        refine oneStep (fun K HK => ?_)
        simp only [pick, List.filterMap_cons, List.filterMap_nil, List.getElem?_toArray, List.getElem?_cons_zero, List.getElem?_cons_succ]
        go_wp2_with fail
        refine (s_Traverse a0 sp0v0 sp0v1 a1 a2 sp2v0 a3 sp3v0 sp3v1 _ (Topo.own_rd0 (Topo.own_ext sp0o ((((Ext.refl _).alloc _).trans sph1).trans sph2))) (Topo.own_rd1 (Topo.own_ext sp0o ((((Ext.refl _).alloc _).trans sph1).trans sph2))) (((Own.flat intF 1 intFlen 3)).rd (Own.ext sp2oq sph2)) (Pkt.own_rd0 (Pkt.own_ext sp3o (Ext.refl _))) (Pkt.own_rd1 (Pkt.own_ext sp3o (Ext.refl _))) y0 y3).mono ?_
        rintro e spw3 ⟨spu0, spu1, spu2, rfl, spoo, sph3⟩
        obtain ⟨spp0, spc0, rfl, spl0⟩ := (Trc.own_rd0 spoo).shape; clear spl0
        obtain ⟨spp1, spc1, rfl, spl1⟩ := (Trc.own_rd1 spoo).shape; clear spl1
        obtain ⟨spp2, spc2, rfl, spl2⟩ := (Trc.own_rd2 spoo).shape; clear spl2
        have hc25 := blk2 (Ext.block (((e1.trans h3).trans h4).trans ((((((Ext.refl _).drew.trans sph0).trans ((Ext.refl _).alloc _)).trans sph1).trans sph2).trans sph3)) HB0.out)
        have hc26 := blk10 (Ext.block ((h3.trans h4).trans ((((((Ext.refl _).drew.trans sph0).trans ((Ext.refl _).alloc _)).trans sph1).trans sph2).trans sph3)) HB1.out)
        go_wp2_with fail
        refine HK.out _ _ sph3 ?_
        clear HK K
        have sphbs := Ext.block ((sph1.trans sph2).trans sph3) spHBA.out
        have spcs := blk12 sphbs
        have spf0 := fr_of sphbs 0
        have spf1 := fr_of sphbs 1
        have spf2 := fr_of sphbs 2
        have spf3 := fr_of sphbs 3
        have spf4 := fr_of sphbs 4
        have spf5 := fr_of sphbs 5
        have spf6 := fr_of sphbs 6
        have spf7 := fr_of sphbs 7
        have spf8 := fr_of sphbs 8
        have spf9 := fr_of sphbs 9
        have spf10 := fr_of sphbs 10
        have spf11 := fr_of sphbs 11
        have spHBS := Lib.hid sphbs; clear sphbs
        refine badStep (by kernel_rfl) (fun K HK => ?_)
        simp only [pick, List.filterMap_cons, List.filterMap_nil, List.getElem?_toArray, List.getElem?_cons_zero, List.getElem?_cons_succ]
        go_wp2_with fail
        refine HK.out _ _ ?_
        clear HK K
        refine doneStep (by kernel_rfl) ?_
        go_wp2_with fail
        go_meet
        obtain ⟨wq, hwq, hbq, hcq, hsq⟩ := vd_set spHBS.out (.int .i64 (traverse a0 a1 a2 a3).code) ((.slice spp0 ((traverse a0 a1 a2 a3).steps).length spc0)) (.int .i64 (traverse a0 a1 a2 a3).pkt.kind) (.int .i64 (traverse a0 a1 a2 a3).pkt.src) (.int .i64 (traverse a0 a1 a2 a3).pkt.dst) ((.slice spp1 ((traverse a0 a1 a2 a3).pkt.path.parts).length spc1)) (.int .i64 (traverse a0 a1 a2 a3).pkt.pi) (.int .i64 (traverse a0 a1 a2 a3).pkt.hi) (.int .i64 (traverse a0 a1 a2 a3).pkt.beta) (.int .i64 (traverse a0 a1 a2 a3).pkt.rid) (.int .i64 (traverse a0 a1 a2 a3).pkt.seq) ((.slice spp2 ((traverse a0 a1 a2 a3).pkt.pay).length spc2))
        rw [← hwq]
        exact ⟨_, _, _, _, rfl, hbq, ((Ext.refl _).drew.trans sph0).size, Trc.own_mono (Trc.own_kept (Trc.own_ext spoo (Ext.refl _)) hcq (fun b hb e => absurd hb.1 (by rw [e]; exact Nat.not_le.2 (Nat.lt_of_lt_of_le (blk_lt spHBA.out) (sph1.trans sph2).size)))) (fun b hb => ⟨Nat.le_trans (((((Ext.refl _).drew.trans sph0).trans ((Ext.refl _).alloc _)).trans sph1).trans sph2).size hb.1, by rw [hsq]; exact Nat.lt_of_lt_of_le hb.2 (Ext.refl _).size⟩), ((((((Ext.refl _).drew.trans sph0).trans ((Ext.refl _).alloc _)).trans sph1).trans sph2).trans sph3).chg1 hcq ((Ext.refl _).drew.trans sph0).size⟩
    · have sphba := blk_new w4 (.cells #[.int .i64 0, .slice none 0 0, .int .i64 0, .int .i64 0, .int .i64 0, .slice none 0 0, .int .i64 0, .int .i64 0, .int .i64 0, .int .i64 0, .int .i64 0, .slice none 0 0] 42)
      have spHBA := Lib.hid sphba; clear sphba
      refine oneStep (fun K HK => ?_)
      simp only [pick, List.filterMap_cons, List.filterMap_nil, List.getElem?_toArray, List.getElem?_cons_zero, List.getElem?_cons_succ]
      go_wp2_with fail
      refine HK.out _ _ ((Ext.refl _).alloc _) ?_
      clear HK K
      refine oneStep (fun K HK => ?_)
      simp only [pick, List.filterMap_cons, List.filterMap_nil, List.getElem?_toArray, List.getElem?_cons_zero, List.getElem?_cons_succ]
      go_wp2_with fail
      refine (l_toTopologyO a0 v0h0 v0h1 _ (r0h0.ext ((((e0.trans e1).trans h3).trans h4).trans ((Ext.refl _).drew.trans ((Ext.refl _).alloc _)))) (r0h1.ext ((((e0.trans e1).trans h3).trans h4).trans ((Ext.refl _).drew.trans ((Ext.refl _).alloc _)))) y0).mono ?_
      rintro e spw0 ⟨sp0v0, sp0v1, rfl, sp0o, sph0⟩
      have hc27 := blk2 (Ext.block (((e1.trans h3).trans h4).trans (((Ext.refl _).drew.trans ((Ext.refl _).alloc _)).trans sph0)) HB0.out)
      have hc28 := blk10 (Ext.block ((h3.trans h4).trans (((Ext.refl _).drew.trans ((Ext.refl _).alloc _)).trans sph0)) HB1.out)
      go_wp2_with fail
      refine HK.out _ _ sph0 ?_
      clear HK K
      refine oneStep (fun K HK => ?_)
      simp only [pick, List.filterMap_cons, List.filterMap_nil, List.getElem?_toArray, List.getElem?_cons_zero, List.getElem?_cons_succ]
      go_wp2_with fail
      refine (l_toIntS a2 _ _ (r2h0.ext ((((e0.trans e1).trans h3).trans h4).trans (((Ext.refl _).drew.trans ((Ext.refl _).alloc _)).trans sph0))) y2).mono ?_
      rintro e spw1 ⟨sp2v0, rfl, sp2o, sph1⟩
      have sp2oq := Own.ofF (hf := intFlen) sp2o
      have hc29 := blk2 (Ext.block (((e1.trans h3).trans h4).trans ((((Ext.refl _).drew.trans ((Ext.refl _).alloc _)).trans sph0).trans sph1)) HB0.out)
      have hc30 := blk10 (Ext.block ((h3.trans h4).trans ((((Ext.refl _).drew.trans ((Ext.refl _).alloc _)).trans sph0).trans sph1)) HB1.out)
      go_wp2_with fail
      refine HK.out _ _ sph1 ?_
      clear HK K
      refine oneStep (fun K HK => ?_)
      simp only [pick, List.filterMap_cons, List.filterMap_nil, List.getElem?_toArray, List.getElem?_cons_zero, List.getElem?_cons_succ]
      go_wp2_with fail
      refine (l_toPacket a3 v3h0 v3h1 _ (r3h0.ext ((((e0.trans e1).trans h3).trans h4).trans ((((Ext.refl _).drew.trans ((Ext.refl _).alloc _)).trans sph0).trans sph1))) (r3h1.ext ((((e0.trans e1).trans h3).trans h4).trans ((((Ext.refl _).drew.trans ((Ext.refl _).alloc _)).trans sph0).trans sph1))) y3).mono ?_
      rintro e spw2 ⟨sp3v0, sp3v1, rfl, sp3o, sph2⟩
      have hc31 := blk2 (Ext.block (((e1.trans h3).trans h4).trans (((((Ext.refl _).drew.trans ((Ext.refl _).alloc _)).trans sph0).trans sph1).trans sph2)) HB0.out)
      have hc32 := blk10 (Ext.block ((h3.trans h4).trans (((((Ext.refl _).drew.trans ((Ext.refl _).alloc _)).trans sph0).trans sph1).trans sph2)) HB1.out)
      go_wp2_with fail
      refine HK.out _ _ sph2 ?_
      clear HK K
      refine oneStep (fun K HK => ?_)
      simp only [pick, List.filterMap_cons, List.filterMap_nil, List.getElem?_toArray, List.getElem?_cons_zero, List.getElem?_cons_succ]
      go_wp2_with fail
      refine (s_Traverse a0 sp0v0 sp0v1 a1 a2 sp2v0 a3 sp3v0 sp3v1 _ (Topo.own_rd0 (Topo.own_ext sp0o (sph1.trans sph2))) (Topo.own_rd1 (Topo.own_ext sp0o (sph1.trans sph2))) (((Own.flat intF 1 intFlen 3)).rd (Own.ext sp2oq sph2)) (Pkt.own_rd0 (Pkt.own_ext sp3o (Ext.refl _))) (Pkt.own_rd1 (Pkt.own_ext sp3o (Ext.refl _))) y0 y3).mono ?_
      rintro e spw3 ⟨spu0, spu1, spu2, rfl, spoo, sph3⟩
      obtain ⟨spp0, spc0, rfl, spl0⟩ := (Trc.own_rd0 spoo).shape; clear spl0
      obtain ⟨spp1, spc1, rfl, spl1⟩ := (Trc.own_rd1 spoo).shape; clear spl1
      obtain ⟨spp2, spc2, rfl, spl2⟩ := (Trc.own_rd2 spoo).shape; clear spl2
      have hc33 := blk2 (Ext.block (((e1.trans h3).trans h4).trans ((((((Ext.refl _).drew.trans ((Ext.refl _).alloc _)).trans sph0).trans sph1).trans sph2).trans sph3)) HB0.out)
      have hc34 := blk10 (Ext.block ((h3.trans h4).trans ((((((Ext.refl _).drew.trans ((Ext.refl _).alloc _)).trans sph0).trans sph1).trans sph2).trans sph3)) HB1.out)
      go_wp2_with fail
      refine HK.out _ _ sph3 ?_
      clear HK K
      have sphbs := Ext.block (((sph0.trans sph1).trans sph2).trans sph3) spHBA.out
      have spcs := blk12 sphbs
      have spf0 := fr_of sphbs 0
      have spf1 := fr_of sphbs 1
      have spf2 := fr_of sphbs 2
      have spf3 := fr_of sphbs 3
      have spf4 := fr_of sphbs 4
      have spf5 := fr_of sphbs 5
      have spf6 := fr_of sphbs 6
      have spf7 := fr_of sphbs 7
      have spf8 := fr_of sphbs 8
      have spf9 := fr_of sphbs 9
      have spf10 := fr_of sphbs 10
      have spf11 := fr_of sphbs 11
      have spHBS := Lib.hid sphbs; clear sphbs
      refine badStep (by kernel_rfl) (fun K HK => ?_)
      simp only [pick, List.filterMap_cons, List.filterMap_nil, List.getElem?_toArray, List.getElem?_cons_zero, List.getElem?_cons_succ]
      go_wp2_with fail
      refine HK.out _ _ ?_
      clear HK K
      refine doneStep (by kernel_rfl) ?_
      go_wp2_with fail
      go_meet
      obtain ⟨wq, hwq, hbq, hcq, hsq⟩ := vd_set spHBS.out (.int .i64 (traverse a0 a1 a2 a3).code) ((.slice spp0 ((traverse a0 a1 a2 a3).steps).length spc0)) (.int .i64 (traverse a0 a1 a2 a3).pkt.kind) (.int .i64 (traverse a0 a1 a2 a3).pkt.src) (.int .i64 (traverse a0 a1 a2 a3).pkt.dst) ((.slice spp1 ((traverse a0 a1 a2 a3).pkt.path.parts).length spc1)) (.int .i64 (traverse a0 a1 a2 a3).pkt.pi) (.int .i64 (traverse a0 a1 a2 a3).pkt.hi) (.int .i64 (traverse a0 a1 a2 a3).pkt.beta) (.int .i64 (traverse a0 a1 a2 a3).pkt.rid) (.int .i64 (traverse a0 a1 a2 a3).pkt.seq) ((.slice spp2 ((traverse a0 a1 a2 a3).pkt.pay).length spc2))
      rw [← hwq]
      exact ⟨_, _, _, _, rfl, hbq, (Ext.refl _).drew.size, Trc.own_mono (Trc.own_kept (Trc.own_ext spoo (Ext.refl _)) hcq (fun b hb e => absurd hb.1 (by rw [e]; exact Nat.not_le.2 (Nat.lt_of_lt_of_le (blk_lt spHBA.out) ((sph0.trans sph1).trans sph2).size)))) (fun b hb => ⟨Nat.le_trans (((((Ext.refl _).drew.trans ((Ext.refl _).alloc _)).trans sph0).trans sph1).trans sph2).size hb.1, by rw [hsq]; exact Nat.lt_of_lt_of_le hb.2 (Ext.refl _).size⟩), ((((((Ext.refl _).drew.trans ((Ext.refl _).alloc _)).trans sph0).trans sph1).trans sph2).trans sph3).chg1 hcq (Ext.refl _).drew.size⟩
  case rest =>
    obtain ⟨spg, spu0, spu1, spu2, rfl, sphb, sphg, spoo, sphx⟩ := hcut
    obtain ⟨w5, hwn⟩ : ∃ wA : World, wA = wc := ⟨_, rfl⟩
    subst hwn
    have spHB := Lib.hid sphb; clear sphb
    obtain ⟨spp0, spc0, rfl, spl0⟩ := (Trc.own_rd0 spoo).shape; clear spl0
    obtain ⟨spp1, spc1, rfl, spl1⟩ := (Trc.own_rd1 spoo).shape; clear spl1
    obtain ⟨spp2, spc2, rfl, spl2⟩ := (Trc.own_rd2 spoo).shape; clear spl2
    have hc35 := blk2 (Ext.block (((e1.trans h3).trans h4).trans sphx) HB0.out)
    have hc36 := blk10 (Ext.block ((h3.trans h4).trans sphx) HB1.out)
    have hc37 := blk12 spHB.out
    go_wp2_with fail
    refine (l_toTopologyO a0 v0h0 v0h1 _ (r0h0.ext ((((e0.trans e1).trans h3).trans h4).trans sphx)) (r0h1.ext ((((e0.trans e1).trans h3).trans h4).trans sphx)) y0).mono ?_
    rintro e w6 ⟨x0u0, x0u1, rfl, x0o0, h6⟩
    obtain ⟨x0sp0, x0sc0, rfl, x0sl0⟩ := (Topo.own_rd0 x0o0).shape; clear x0sl0
    obtain ⟨x0sp1, x0sc1, rfl, x0sl1⟩ := (Topo.own_rd1 x0o0).shape; clear x0sl1
    have e6 : Ext w6 (w6.alloc (.cells #[(.slice x0sp0 (a0.ases).length x0sc0), (.slice x0sp1 (a0.links).length x0sc1)] 47)) := (Ext.refl _).alloc _
    have hB6 := blk_new w6 (.cells #[(.slice x0sp0 (a0.ases).length x0sc0), (.slice x0sp1 (a0.links).length x0sc1)] 47)
    have HB6 := Lib.hid hB6; clear hB6
    have hc38 := blk2 (Ext.block (((((e1.trans h3).trans h4).trans sphx).trans h6).trans e6) HB0.out)
    have hc39 := blk10 (Ext.block ((((h3.trans h4).trans sphx).trans h6).trans e6) HB1.out)
    have hc40 := blk12 (Ext.block (h6.trans e6) spHB.out)
    go_wp2_with fail
    refine (l_toIntS a2 _ _ (r2h0.ext ((((((e0.trans e1).trans h3).trans h4).trans sphx).trans h6).trans e6)) y2).mono ?_
    rintro e w8 ⟨x2u0, rfl, x2o0, h8⟩
    have x2o0q := Own.ofF (hf := intFlen) x2o0
    obtain ⟨x2sp0, x2sc0, rfl, x2sl0⟩ := (((Own.flat intF 1 intFlen 3)).rd x2o0q).shape; clear x2sl0
    have hc42 := blk2 (Ext.block ((((((e1.trans h3).trans h4).trans sphx).trans h6).trans e6).trans h8) HB0.out)
    have hc43 := blk10 (Ext.block (((((h3.trans h4).trans sphx).trans h6).trans e6).trans h8) HB1.out)
    have hc44 := blk12 (Ext.block ((h6.trans e6).trans h8) spHB.out)
    have hc45 := blk2 (Ext.block h8 HB6.out)
    go_wp2_with fail
    refine (l_toPacket a3 v3h0 v3h1 _ (r3h0.ext (((((((e0.trans e1).trans h3).trans h4).trans sphx).trans h6).trans e6).trans h8)) (r3h1.ext (((((((e0.trans e1).trans h3).trans h4).trans sphx).trans h6).trans e6).trans h8)) y3).mono ?_
    rintro e w9 ⟨x3u0, x3u1, rfl, x3o0, h9⟩
    obtain ⟨x3sp0, x3sc0, rfl, x3sl0⟩ := (Pkt.own_rd0 x3o0).shape; clear x3sl0
    obtain ⟨x3sp1, x3sc1, rfl, x3sl1⟩ := (Pkt.own_rd1 x3o0).shape; clear x3sl1
    have e9 : Ext w9 (w9.alloc (.cells #[.int .i64 a3.kind, .int .i64 a3.src, .int .i64 a3.dst, (.slice x3sp0 (a3.path.parts).length x3sc0), .int .i64 a3.pi, .int .i64 a3.hi, .int .i64 a3.beta, .int .i64 a3.rid, .int .i64 a3.seq, (.slice x3sp1 (a3.pay).length x3sc1)] 40)) := (Ext.refl _).alloc _
    have hB9 := blk_new w9 (.cells #[.int .i64 a3.kind, .int .i64 a3.src, .int .i64 a3.dst, (.slice x3sp0 (a3.path.parts).length x3sc0), .int .i64 a3.pi, .int .i64 a3.hi, .int .i64 a3.beta, .int .i64 a3.rid, .int .i64 a3.seq, (.slice x3sp1 (a3.pay).length x3sc1)] 40)
    have HB9 := Lib.hid hB9; clear hB9
    have hc46 := blk2 (Ext.block ((((((((e1.trans h3).trans h4).trans sphx).trans h6).trans e6).trans h8).trans h9).trans e9) HB0.out)
    have hc47 := blk10 (Ext.block (((((((h3.trans h4).trans sphx).trans h6).trans e6).trans h8).trans h9).trans e9) HB1.out)
    have hc48 := blk12 (Ext.block ((((h6.trans e6).trans h8).trans h9).trans e9) spHB.out)
    have hc49 := blk2 (Ext.block ((h8.trans h9).trans e9) HB6.out)
    go_wp2_with fail
    refine (i_Traverse a0 (.slice x0sp0 (a0.ases).length x0sc0) (.slice x0sp1 (a0.links).length x0sc1) a1 a2 (.slice x2sp0 (a2).length x2sc0) a3 (.slice x3sp0 (a3.path.parts).length x3sc0) (.slice x3sp1 (a3.pay).length x3sc1) _ ((Topo.own_rd0 x0o0).ext (((e6.trans h8).trans h9).trans e9)) ((Topo.own_rd1 x0o0).ext (((e6.trans h8).trans h9).trans e9)) ((((Own.flat intF 1 intFlen 3)).rd x2o0q).ext (h9.trans e9)) ((Pkt.own_rd0 x3o0).ext e9) ((Pkt.own_rd1 x3o0).ext e9) y0 y3).mono ?_
    rintro e w11 ⟨gpu0, gpu1, gpu2, rfl, gpo0, h11⟩
    obtain ⟨gpp0, gpc0, rfl, gpl0⟩ := (Trc.own_rd0 gpo0).shape; clear gpl0
    obtain ⟨gpp1, gpc1, rfl, gpl1⟩ := (Trc.own_rd1 gpo0).shape; clear gpl1
    obtain ⟨gpp2, gpc2, rfl, gpl2⟩ := (Trc.own_rd2 gpo0).shape; clear gpl2
    have e11 : Ext w11 (w11.alloc (.cells #[.int .i64 (traverse a0 a1 a2 a3).code, (.slice gpp0 ((traverse a0 a1 a2 a3).steps).length gpc0), .int .i64 (traverse a0 a1 a2 a3).pkt.kind, .int .i64 (traverse a0 a1 a2 a3).pkt.src, .int .i64 (traverse a0 a1 a2 a3).pkt.dst, (.slice gpp1 ((traverse a0 a1 a2 a3).pkt.path.parts).length gpc1), .int .i64 (traverse a0 a1 a2 a3).pkt.pi, .int .i64 (traverse a0 a1 a2 a3).pkt.hi, .int .i64 (traverse a0 a1 a2 a3).pkt.beta, .int .i64 (traverse a0 a1 a2 a3).pkt.rid, .int .i64 (traverse a0 a1 a2 a3).pkt.seq, (.slice gpp2 ((traverse a0 a1 a2 a3).pkt.pay).length gpc2)] 42)) := (Ext.refl _).alloc _
    have hB11 := blk_new w11 (.cells #[.int .i64 (traverse a0 a1 a2 a3).code, (.slice gpp0 ((traverse a0 a1 a2 a3).steps).length gpc0), .int .i64 (traverse a0 a1 a2 a3).pkt.kind, .int .i64 (traverse a0 a1 a2 a3).pkt.src, .int .i64 (traverse a0 a1 a2 a3).pkt.dst, (.slice gpp1 ((traverse a0 a1 a2 a3).pkt.path.parts).length gpc1), .int .i64 (traverse a0 a1 a2 a3).pkt.pi, .int .i64 (traverse a0 a1 a2 a3).pkt.hi, .int .i64 (traverse a0 a1 a2 a3).pkt.beta, .int .i64 (traverse a0 a1 a2 a3).pkt.rid, .int .i64 (traverse a0 a1 a2 a3).pkt.seq, (.slice gpp2 ((traverse a0 a1 a2 a3).pkt.pay).length gpc2)] 42)
    have HB11 := Lib.hid hB11; clear hB11
    have hc51 := blk2 (Ext.block ((((((((((e1.trans h3).trans h4).trans sphx).trans h6).trans e6).trans h8).trans h9).trans e9).trans h11).trans e11) HB0.out)
    have hc52 := blk10 (Ext.block (((((((((h3.trans h4).trans sphx).trans h6).trans e6).trans h8).trans h9).trans e9).trans h11).trans e11) HB1.out)
    have hc53 := blk12 (Ext.block ((((((h6.trans e6).trans h8).trans h9).trans e9).trans h11).trans e11) spHB.out)
    have hc54 := blk2 (Ext.block ((((h8.trans h9).trans e9).trans h11).trans e11) HB6.out)
    have hc55 := blk10 (Ext.block (h11.trans e11) HB9.out)
    go_wp2_with fail
    refine (l_eqTrace (traverse a0 a1 a2 a3) (traverse a0 a1 a2 a3) (.slice gpp0 ((traverse a0 a1 a2 a3).steps).length gpc0) (.slice gpp1 ((traverse a0 a1 a2 a3).pkt.path.parts).length gpc1) (.slice gpp2 ((traverse a0 a1 a2 a3).pkt.pay).length gpc2) (.slice spp0 ((traverse a0 a1 a2 a3).steps).length spc0) (.slice spp1 ((traverse a0 a1 a2 a3).pkt.path.parts).length spc1) (.slice spp2 ((traverse a0 a1 a2 a3).pkt.pay).length spc2) _ ((Trc.own_rd0 gpo0).ext e11) ((Trc.own_rd1 gpo0).ext e11) ((Trc.own_rd2 gpo0).ext e11) ((Trc.own_rd0 spoo).ext ((((((h6.trans e6).trans h8).trans h9).trans e9).trans h11).trans e11)) ((Trc.own_rd1 spoo).ext ((((((h6.trans e6).trans h8).trans h9).trans e9).trans h11).trans e11)) ((Trc.own_rd2 spoo).ext ((((((h6.trans e6).trans h8).trans h9).trans e9).trans h11).trans e11))).mono ?_
    rintro e w13 ⟨rfl, h13⟩
    rw [show decide ((traverse a0 a1 a2 a3) = (traverse a0 a1 a2 a3)) = true from decide_eq_true rfl]
    have hc57 := blk2 (Ext.block (((((((((((e1.trans h3).trans h4).trans sphx).trans h6).trans e6).trans h8).trans h9).trans e9).trans h11).trans e11).trans h13) HB0.out)
    have hc58 := blk10 (Ext.block ((((((((((h3.trans h4).trans sphx).trans h6).trans e6).trans h8).trans h9).trans e9).trans h11).trans e11).trans h13) HB1.out)
    have hc59 := blk12 (Ext.block (((((((h6.trans e6).trans h8).trans h9).trans e9).trans h11).trans e11).trans h13) spHB.out)
    have hc60 := blk2 (Ext.block (((((h8.trans h9).trans e9).trans h11).trans e11).trans h13) HB6.out)
    have hc61 := blk10 (Ext.block ((h11.trans e11).trans h13) HB9.out)
    have hc62 := blk12 (Ext.block h13 HB11.out)
    go_wp2_with fail
    refine planStep (.blk [0, 1] (.one 2 (.one 3 (.blk [4] .done)))) [] (by kernel_rfl) (by kernel_rfl) ?_
    refine blkStep (fun K HK => ?_)
    simp only [pick, List.filterMap_cons, List.filterMap_nil, List.getElem?_toArray, List.getElem?_cons_zero, List.getElem?_cons_succ]
    go_wp2_with fail
    refine HK.out _ _ ?_
    clear HK K
    refine oneStep (fun K HK => ?_)
    simp only [pick, List.filterMap_cons, List.filterMap_nil, List.getElem?_toArray, List.getElem?_cons_zero, List.getElem?_cons_succ]
    go_wp2_with fail
    refine (l_toTopologyO a0 v0h0 v0h1 _ (r0h0.ext ((((((((((((e0.trans e1).trans h3).trans h4).trans sphx).trans h6).trans e6).trans h8).trans h9).trans e9).trans h11).trans e11).trans h13).drew) (r0h1.ext ((((((((((((e0.trans e1).trans h3).trans h4).trans sphx).trans h6).trans e6).trans h8).trans h9).trans e9).trans h11).trans e11).trans h13).drew) y0).mono ?_
    rintro e w14 ⟨t0u0, t0u1, rfl, t0o0, h14⟩
    go_wp2_with fail
    refine HK.out _ _ (h14) ?_
    clear HK K
    refine oneStep (fun K HK => ?_)
    simp only [pick, List.filterMap_cons, List.filterMap_nil, List.getElem?_toArray, List.getElem?_cons_zero, List.getElem?_cons_succ]
    go_wp2_with fail
    refine (l_eqTopology a0 a0 (.slice x0sp0 (a0.ases).length x0sc0) (.slice x0sp1 (a0.links).length x0sc1) t0u0 t0u1 _ ((Topo.own_rd0 x0o0).ext (((((((e6.trans h8).trans h9).trans e9).trans h11).trans e11).trans h13).trans ((Ext.refl _).drew.trans h14))) ((Topo.own_rd1 x0o0).ext (((((((e6.trans h8).trans h9).trans e9).trans h11).trans e11).trans h13).trans ((Ext.refl _).drew.trans h14))) (Topo.own_rd0 t0o0) (Topo.own_rd1 t0o0)).mono ?_
    rintro e w15 ⟨rfl, h15⟩
    rw [show decide (a0 = a0) = true from decide_eq_true rfl]
    go_wp2_with fail
    refine HK.out _ _ (h15) ?_
    clear HK K
    refine blkStep (fun K HK => ?_)
    simp only [pick, List.filterMap_cons, List.filterMap_nil, List.getElem?_toArray, List.getElem?_cons_zero, List.getElem?_cons_succ]
    go_wp2_with fail
    refine HK.out _ _ ?_
    clear HK K
    refine doneStep (by kernel_rfl) ?_
    have hc63 := blk2 (Ext.block (((((((((((((e1.trans h3).trans h4).trans sphx).trans h6).trans e6).trans h8).trans h9).trans e9).trans h11).trans e11).trans h13).trans ((Ext.refl _).drew.trans h14)).trans h15) HB0.out)
    have hc64 := blk10 (Ext.block ((((((((((((h3.trans h4).trans sphx).trans h6).trans e6).trans h8).trans h9).trans e9).trans h11).trans e11).trans h13).trans ((Ext.refl _).drew.trans h14)).trans h15) HB1.out)
    have hc65 := blk12 (Ext.block (((((((((h6.trans e6).trans h8).trans h9).trans e9).trans h11).trans e11).trans h13).trans ((Ext.refl _).drew.trans h14)).trans h15) spHB.out)
    have hc66 := blk2 (Ext.block (((((((h8.trans h9).trans e9).trans h11).trans e11).trans h13).trans ((Ext.refl _).drew.trans h14)).trans h15) HB6.out)
    have hc67 := blk10 (Ext.block ((((h11.trans e11).trans h13).trans ((Ext.refl _).drew.trans h14)).trans h15) HB9.out)
    have hc68 := blk12 (Ext.block ((h13.trans ((Ext.refl _).drew.trans h14)).trans h15) HB11.out)
    go_wp2_with fail
    refine (l_toIntS a2 _ _ (r2h0.ext ((((((((((((((e0.trans e1).trans h3).trans h4).trans sphx).trans h6).trans e6).trans h8).trans h9).trans e9).trans h11).trans e11).trans h13).trans ((Ext.refl _).drew.trans h14)).trans h15)) y2).mono ?_
    rintro e w16 ⟨t2u0, rfl, t2o0, h16⟩
    have t2o0q := Own.ofF (hf := intFlen) t2o0
    have hc69 := blk2 (Ext.block ((((((((((((((e1.trans h3).trans h4).trans sphx).trans h6).trans e6).trans h8).trans h9).trans e9).trans h11).trans e11).trans h13).trans ((Ext.refl _).drew.trans h14)).trans h15).trans h16) HB0.out)
    have hc70 := blk10 (Ext.block (((((((((((((h3.trans h4).trans sphx).trans h6).trans e6).trans h8).trans h9).trans e9).trans h11).trans e11).trans h13).trans ((Ext.refl _).drew.trans h14)).trans h15).trans h16) HB1.out)
    have hc71 := blk12 (Ext.block ((((((((((h6.trans e6).trans h8).trans h9).trans e9).trans h11).trans e11).trans h13).trans ((Ext.refl _).drew.trans h14)).trans h15).trans h16) spHB.out)
    have hc72 := blk2 (Ext.block ((((((((h8.trans h9).trans e9).trans h11).trans e11).trans h13).trans ((Ext.refl _).drew.trans h14)).trans h15).trans h16) HB6.out)
    have hc73 := blk10 (Ext.block (((((h11.trans e11).trans h13).trans ((Ext.refl _).drew.trans h14)).trans h15).trans h16) HB9.out)
    have hc74 := blk12 (Ext.block (((h13.trans ((Ext.refl _).drew.trans h14)).trans h15).trans h16) HB11.out)
    go_wp2_with fail
    refine (l_eqIntS a2 a2 (.slice x2sp0 (a2).length x2sc0) t2u0 _ ((((Own.flat intF 1 intFlen 3)).rd x2o0q).ext (((((((h9.trans e9).trans h11).trans e11).trans h13).trans ((Ext.refl _).drew.trans h14)).trans h15).trans h16)) (((Own.flat intF 1 intFlen 3)).rd t2o0q)).mono ?_
    rintro e w17 ⟨rfl, h17⟩
    rw [show decide (a2 = a2) = true from decide_eq_true rfl]
    have hc75 := blk2 (Ext.block (((((((((((((((e1.trans h3).trans h4).trans sphx).trans h6).trans e6).trans h8).trans h9).trans e9).trans h11).trans e11).trans h13).trans ((Ext.refl _).drew.trans h14)).trans h15).trans h16).trans h17) HB0.out)
    have hc76 := blk10 (Ext.block ((((((((((((((h3.trans h4).trans sphx).trans h6).trans e6).trans h8).trans h9).trans e9).trans h11).trans e11).trans h13).trans ((Ext.refl _).drew.trans h14)).trans h15).trans h16).trans h17) HB1.out)
    have hc77 := blk12 (Ext.block (((((((((((h6.trans e6).trans h8).trans h9).trans e9).trans h11).trans e11).trans h13).trans ((Ext.refl _).drew.trans h14)).trans h15).trans h16).trans h17) spHB.out)
    have hc78 := blk2 (Ext.block (((((((((h8.trans h9).trans e9).trans h11).trans e11).trans h13).trans ((Ext.refl _).drew.trans h14)).trans h15).trans h16).trans h17) HB6.out)
    have hc79 := blk10 (Ext.block ((((((h11.trans e11).trans h13).trans ((Ext.refl _).drew.trans h14)).trans h15).trans h16).trans h17) HB9.out)
    have hc80 := blk12 (Ext.block ((((h13.trans ((Ext.refl _).drew.trans h14)).trans h15).trans h16).trans h17) HB11.out)
    go_wp2_with fail
    refine planStep (.blk [0, 1] (.one 2 (.one 3 (.blk [4] .done)))) [] (by kernel_rfl) (by kernel_rfl) ?_
    refine blkStep (fun K HK => ?_)
    simp only [pick, List.filterMap_cons, List.filterMap_nil, List.getElem?_toArray, List.getElem?_cons_zero, List.getElem?_cons_succ]
    go_wp2_with fail
    refine HK.out _ _ ?_
    clear HK K
    refine oneStep (fun K HK => ?_)
    simp only [pick, List.filterMap_cons, List.filterMap_nil, List.getElem?_toArray, List.getElem?_cons_zero, List.getElem?_cons_succ]
    go_wp2_with fail
    refine (l_toPacket a3 v3h0 v3h1 _ (r3h0.ext ((((((((((((((((e0.trans e1).trans h3).trans h4).trans sphx).trans h6).trans e6).trans h8).trans h9).trans e9).trans h11).trans e11).trans h13).trans ((Ext.refl _).drew.trans h14)).trans h15).trans h16).trans h17).drew) (r3h1.ext ((((((((((((((((e0.trans e1).trans h3).trans h4).trans sphx).trans h6).trans e6).trans h8).trans h9).trans e9).trans h11).trans e11).trans h13).trans ((Ext.refl _).drew.trans h14)).trans h15).trans h16).trans h17).drew) y3).mono ?_
    rintro e w18 ⟨t3u0, t3u1, rfl, t3o0, h18⟩
    go_wp2_with fail
    refine HK.out _ _ (h18) ?_
    clear HK K
    refine oneStep (fun K HK => ?_)
    simp only [pick, List.filterMap_cons, List.filterMap_nil, List.getElem?_toArray, List.getElem?_cons_zero, List.getElem?_cons_succ]
    go_wp2_with fail
    refine (l_eqPacket a3 a3 (.slice x3sp0 (a3.path.parts).length x3sc0) (.slice x3sp1 (a3.pay).length x3sc1) t3u0 t3u1 _ ((Pkt.own_rd0 x3o0).ext ((((((((e9.trans h11).trans e11).trans h13).trans ((Ext.refl _).drew.trans h14)).trans h15).trans h16).trans h17).trans ((Ext.refl _).drew.trans h18))) ((Pkt.own_rd1 x3o0).ext ((((((((e9.trans h11).trans e11).trans h13).trans ((Ext.refl _).drew.trans h14)).trans h15).trans h16).trans h17).trans ((Ext.refl _).drew.trans h18))) (Pkt.own_rd0 t3o0) (Pkt.own_rd1 t3o0)).mono ?_
    rintro e w19 ⟨rfl, h19⟩
    rw [show decide (a3 = a3) = true from decide_eq_true rfl]
    go_wp2_with fail
    refine HK.out _ _ (h19) ?_
    clear HK K
    refine blkStep (fun K HK => ?_)
    simp only [pick, List.filterMap_cons, List.filterMap_nil, List.getElem?_toArray, List.getElem?_cons_zero, List.getElem?_cons_succ]
    go_wp2_with fail
    refine HK.out _ _ ?_
    clear HK K
    refine doneStep (by kernel_rfl) ?_
    have hc81 := blk2 (Ext.block (((((((((((((((((e1.trans h3).trans h4).trans sphx).trans h6).trans e6).trans h8).trans h9).trans e9).trans h11).trans e11).trans h13).trans ((Ext.refl _).drew.trans h14)).trans h15).trans h16).trans h17).trans ((Ext.refl _).drew.trans h18)).trans h19) HB0.out)
    have hc82 := blk10 (Ext.block ((((((((((((((((h3.trans h4).trans sphx).trans h6).trans e6).trans h8).trans h9).trans e9).trans h11).trans e11).trans h13).trans ((Ext.refl _).drew.trans h14)).trans h15).trans h16).trans h17).trans ((Ext.refl _).drew.trans h18)).trans h19) HB1.out)
    have hc83 := blk12 (Ext.block (((((((((((((h6.trans e6).trans h8).trans h9).trans e9).trans h11).trans e11).trans h13).trans ((Ext.refl _).drew.trans h14)).trans h15).trans h16).trans h17).trans ((Ext.refl _).drew.trans h18)).trans h19) spHB.out)
    have hc84 := blk2 (Ext.block (((((((((((h8.trans h9).trans e9).trans h11).trans e11).trans h13).trans ((Ext.refl _).drew.trans h14)).trans h15).trans h16).trans h17).trans ((Ext.refl _).drew.trans h18)).trans h19) HB6.out)
    have hc85 := blk10 (Ext.block ((((((((h11.trans e11).trans h13).trans ((Ext.refl _).drew.trans h14)).trans h15).trans h16).trans h17).trans ((Ext.refl _).drew.trans h18)).trans h19) HB9.out)
    have hc86 := blk12 (Ext.block ((((((h13.trans ((Ext.refl _).drew.trans h14)).trans h15).trans h16).trans h17).trans ((Ext.refl _).drew.trans h18)).trans h19) HB11.out)
    go_wp2_with fail
    refine (l_markTopology (a0) (.slice x0sp0 (a0.ases).length x0sc0) (.slice x0sp1 (a0.links).length x0sc1) (1) _ _ (Topo.own_ext x0o0 ((((((((((((e6.trans h8).trans h9).trans e9).trans h11).trans e11).trans h13).trans ((Ext.refl _).drew.trans h14)).trans h15).trans h16).trans h17).trans ((Ext.refl _).drew.trans h18)).trans h19)) (by omega) (by omega)).mono ?_
    rintro e w20 ⟨rfl, mx0o, mx0c⟩
    have HB0m1 := Lib.hid (Chg.blk mx0c (Ext.block (((((((((((((((((e1.trans h3).trans h4).trans sphx).trans h6).trans e6).trans h8).trans h9).trans e9).trans h11).trans e11).trans h13).trans ((Ext.refl _).drew.trans h14)).trans h15).trans h16).trans h17).trans ((Ext.refl _).drew.trans h18)).trans h19) HB0.out) (.inl (Nat.lt_of_lt_of_le (blk_lt HB0.out) (((e1.trans h3).trans h4).trans sphx).size)))
    have HB1m1 := Lib.hid (Chg.blk mx0c (Ext.block ((((((((((((((((h3.trans h4).trans sphx).trans h6).trans e6).trans h8).trans h9).trans e9).trans h11).trans e11).trans h13).trans ((Ext.refl _).drew.trans h14)).trans h15).trans h16).trans h17).trans ((Ext.refl _).drew.trans h18)).trans h19) HB1.out) (.inl (Nat.lt_of_lt_of_le (blk_lt HB1.out) ((h3.trans h4).trans sphx).size)))
    have spHBm1 := Lib.hid (Chg.blk mx0c (Ext.block (((((((((((((h6.trans e6).trans h8).trans h9).trans e9).trans h11).trans e11).trans h13).trans ((Ext.refl _).drew.trans h14)).trans h15).trans h16).trans h17).trans ((Ext.refl _).drew.trans h18)).trans h19) spHB.out) (.inl (Nat.lt_of_lt_of_le (blk_lt spHB.out) (Ext.refl _).size)))
    have HB6m1 := Lib.hid (Chg.blk mx0c (Ext.block (((((((((((h8.trans h9).trans e9).trans h11).trans e11).trans h13).trans ((Ext.refl _).drew.trans h14)).trans h15).trans h16).trans h17).trans ((Ext.refl _).drew.trans h18)).trans h19) HB6.out) (.inr (Ext.refl _).size))
    have HB9m1 := Lib.hid (Chg.blk mx0c (Ext.block ((((((((h11.trans e11).trans h13).trans ((Ext.refl _).drew.trans h14)).trans h15).trans h16).trans h17).trans ((Ext.refl _).drew.trans h18)).trans h19) HB9.out) (.inr ((e6.trans h8).trans h9).size))
    have HB11m1 := Lib.hid (Chg.blk mx0c (Ext.block ((((((h13.trans ((Ext.refl _).drew.trans h14)).trans h15).trans h16).trans h17).trans ((Ext.refl _).drew.trans h18)).trans h19) HB11.out) (.inr ((((e6.trans h8).trans h9).trans e9).trans h11).size))
    have spoo_m1 := Trc.own_kept (Trc.own_ext spoo (((((((((((((h6.trans e6).trans h8).trans h9).trans e9).trans h11).trans e11).trans h13).trans ((Ext.refl _).drew.trans h14)).trans h15).trans h16).trans h17).trans ((Ext.refl _).drew.trans h18)).trans h19)) mx0c (rng_apart (.inl (Ext.refl _).size))
    have x2o0q_m1 := Own.kept _ (Own.ext x2o0q ((((((((((h9.trans e9).trans h11).trans e11).trans h13).trans ((Ext.refl _).drew.trans h14)).trans h15).trans h16).trans h17).trans ((Ext.refl _).drew.trans h18)).trans h19)) mx0c (rng_apart (.inr e6.size))
    have x3o0_m1 := Pkt.own_kept (Pkt.own_ext x3o0 (((((((((e9.trans h11).trans e11).trans h13).trans ((Ext.refl _).drew.trans h14)).trans h15).trans h16).trans h17).trans ((Ext.refl _).drew.trans h18)).trans h19)) mx0c (rng_apart (.inr (e6.trans h8).size))
    have gpo0_m1 := Trc.own_kept (Trc.own_ext gpo0 (((((((e11.trans h13).trans ((Ext.refl _).drew.trans h14)).trans h15).trans h16).trans h17).trans ((Ext.refl _).drew.trans h18)).trans h19)) mx0c (rng_apart (.inr (((e6.trans h8).trans h9).trans e9).size))
    have t0o0_m1 := Topo.own_kept (Topo.own_ext t0o0 ((((h15.trans h16).trans h17).trans ((Ext.refl _).drew.trans h18)).trans h19)) mx0c (rng_apart (.inr ((((((e6.trans h8).trans h9).trans e9).trans h11).trans e11).trans h13).size))
    have t2o0q_m1 := Own.kept _ (Own.ext t2o0q ((h17.trans ((Ext.refl _).drew.trans h18)).trans h19)) mx0c (rng_apart (.inr ((((((((e6.trans h8).trans h9).trans e9).trans h11).trans e11).trans h13).trans ((Ext.refl _).drew.trans h14)).trans h15).size))
    have t3o0_m1 := Pkt.own_kept (Pkt.own_ext t3o0 h19) mx0c (rng_apart (.inr ((((((((((e6.trans h8).trans h9).trans e9).trans h11).trans e11).trans h13).trans ((Ext.refl _).drew.trans h14)).trans h15).trans h16).trans h17).size))
    have X1 := Ext.chg ((((((((((((((((((e0.trans e1).trans h3).trans h4).trans sphx).trans h6).trans e6).trans h8).trans h9).trans e9).trans h11).trans e11).trans h13).trans ((Ext.refl _).drew.trans h14)).trans h15).trans h16).trans h17).trans ((Ext.refl _).drew.trans h18)).trans h19) mx0c (fun i hi => Nat.le_trans ((((e0.trans e1).trans h3).trans h4).trans sphx).size hi.1)
    have hc87 := blk2 HB0m1.out
    have hc88 := blk10 HB1m1.out
    have hc89 := blk12 spHBm1.out
    have hc90 := blk2 HB6m1.out
    have hc91 := blk10 HB9m1.out
    have hc92 := blk12 HB11m1.out
    go_wp2_with fail
    refine (lmF_IntS (a2) (.slice x2sp0 (a2).length x2sc0) (1 + (a0).cnt) _ _ x2o0q_m1 (by omega) (by omega)).mono ?_
    rintro e w21 ⟨rfl, mx2o, mx2c⟩
    have HB0m2 := Lib.hid (Chg.blk mx2c HB0m1.out (.inl (Nat.lt_of_lt_of_le (blk_lt HB0.out) (((((e1.trans h3).trans h4).trans sphx).trans h6).trans e6).size)))
    have HB1m2 := Lib.hid (Chg.blk mx2c HB1m1.out (.inl (Nat.lt_of_lt_of_le (blk_lt HB1.out) ((((h3.trans h4).trans sphx).trans h6).trans e6).size)))
    have spHBm2 := Lib.hid (Chg.blk mx2c spHBm1.out (.inl (Nat.lt_of_lt_of_le (blk_lt spHB.out) (h6.trans e6).size)))
    have HB6m2 := Lib.hid (Chg.blk mx2c HB6m1.out (.inl (Nat.lt_of_lt_of_le (blk_lt HB6.out) (Ext.refl _).size)))
    have HB9m2 := Lib.hid (Chg.blk mx2c HB9m1.out (.inr h9.size))
    have HB11m2 := Lib.hid (Chg.blk mx2c HB11m1.out (.inr ((h9.trans e9).trans h11).size))
    have spoo_m2 := Trc.own_kept spoo_m1 mx2c (rng_apart (.inl (h6.trans e6).size))
    have mx0o_m2 := Topo.own_kept mx0o mx2c (rng_apart (.inl e6.size))
    have x3o0_m2 := Pkt.own_kept x3o0_m1 mx2c (rng_apart (.inr (Ext.refl _).size))
    have gpo0_m2 := Trc.own_kept gpo0_m1 mx2c (rng_apart (.inr (h9.trans e9).size))
    have t0o0_m2 := Topo.own_kept t0o0_m1 mx2c (rng_apart (.inr ((((h9.trans e9).trans h11).trans e11).trans h13).size))
    have t2o0q_m2 := Own.kept _ t2o0q_m1 mx2c (rng_apart (.inr ((((((h9.trans e9).trans h11).trans e11).trans h13).trans ((Ext.refl _).drew.trans h14)).trans h15).size))
    have t3o0_m2 := Pkt.own_kept t3o0_m1 mx2c (rng_apart (.inr ((((((((h9.trans e9).trans h11).trans e11).trans h13).trans ((Ext.refl _).drew.trans h14)).trans h15).trans h16).trans h17).size))
    have X2 := Ext.chg (X1.trans (Ext.refl _)) mx2c (fun i hi => Nat.le_trans ((((((e0.trans e1).trans h3).trans h4).trans sphx).trans h6).trans e6).size hi.1)
    have hc93 := blk2 HB0m2.out
    have hc94 := blk10 HB1m2.out
    have hc95 := blk12 spHBm2.out
    have hc96 := blk2 HB6m2.out
    have hc97 := blk10 HB9m2.out
    have hc98 := blk12 HB11m2.out
    go_wp2_with fail
    refine (l_markPacket (a3) (.slice x3sp0 (a3.path.parts).length x3sc0) (.slice x3sp1 (a3.pay).length x3sc1) (1 + (a0).cnt + ((a2).length : Int)) _ _ x3o0_m2 (by omega) (by omega)).mono ?_
    rintro e w22 ⟨rfl, mx3o, mx3c⟩
    have HB0m3 := Lib.hid (Chg.blk mx3c HB0m2.out (.inl (Nat.lt_of_lt_of_le (blk_lt HB0.out) ((((((e1.trans h3).trans h4).trans sphx).trans h6).trans e6).trans h8).size)))
    have HB1m3 := Lib.hid (Chg.blk mx3c HB1m2.out (.inl (Nat.lt_of_lt_of_le (blk_lt HB1.out) (((((h3.trans h4).trans sphx).trans h6).trans e6).trans h8).size)))
    have spHBm3 := Lib.hid (Chg.blk mx3c spHBm2.out (.inl (Nat.lt_of_lt_of_le (blk_lt spHB.out) ((h6.trans e6).trans h8).size)))
    have HB6m3 := Lib.hid (Chg.blk mx3c HB6m2.out (.inl (Nat.lt_of_lt_of_le (blk_lt HB6.out) h8.size)))
    have HB9m3 := Lib.hid (Chg.blk mx3c HB9m2.out (.inr (Ext.refl _).size))
    have HB11m3 := Lib.hid (Chg.blk mx3c HB11m2.out (.inr (e9.trans h11).size))
    have spoo_m3 := Trc.own_kept spoo_m2 mx3c (rng_apart (.inl ((h6.trans e6).trans h8).size))
    have mx0o_m3 := Topo.own_kept mx0o_m2 mx3c (rng_apart (.inl (e6.trans h8).size))
    have mx2o_m3 := Own.kept _ mx2o mx3c (rng_apart (.inl (Ext.refl _).size))
    have gpo0_m3 := Trc.own_kept gpo0_m2 mx3c (rng_apart (.inr e9.size))
    have t0o0_m3 := Topo.own_kept t0o0_m2 mx3c (rng_apart (.inr (((e9.trans h11).trans e11).trans h13).size))
    have t2o0q_m3 := Own.kept _ t2o0q_m2 mx3c (rng_apart (.inr (((((e9.trans h11).trans e11).trans h13).trans ((Ext.refl _).drew.trans h14)).trans h15).size))
    have t3o0_m3 := Pkt.own_kept t3o0_m2 mx3c (rng_apart (.inr (((((((e9.trans h11).trans e11).trans h13).trans ((Ext.refl _).drew.trans h14)).trans h15).trans h16).trans h17).size))
    have X3 := Ext.chg (X2.trans (Ext.refl _)) mx3c (fun i hi => Nat.le_trans (((((((e0.trans e1).trans h3).trans h4).trans sphx).trans h6).trans e6).trans h8).size hi.1)
    have hqp : ¬ (1 + (a0).cnt + ((a2).length : Int) + (a3).cnt) < 0 := by omega
    have hc99 := blk2 HB0m3.out
    have hc100 := blk10 HB1m3.out
    have hc101 := blk12 spHBm3.out
    have hc102 := blk2 HB6m3.out
    have hc103 := blk10 HB9m3.out
    have hc104 := blk12 HB11m3.out
    go_wp2_with fail
    refine (l_eqTrace (traverse a0 a1 a2 a3) (traverse a0 a1 a2 a3) (.slice gpp0 ((traverse a0 a1 a2 a3).steps).length gpc0) (.slice gpp1 ((traverse a0 a1 a2 a3).pkt.path.parts).length gpc1) (.slice gpp2 ((traverse a0 a1 a2 a3).pkt.pay).length gpc2) (.slice spp0 ((traverse a0 a1 a2 a3).steps).length spc0) (.slice spp1 ((traverse a0 a1 a2 a3).pkt.path.parts).length spc1) (.slice spp2 ((traverse a0 a1 a2 a3).pkt.pay).length spc2) _ (Trc.own_rd0 gpo0_m3) (Trc.own_rd1 gpo0_m3) (Trc.own_rd2 gpo0_m3) (Trc.own_rd0 spoo_m3) (Trc.own_rd1 spoo_m3) (Trc.own_rd2 spoo_m3)).mono ?_
    rintro e w23 ⟨rfl, h23⟩
    rw [show decide ((traverse a0 a1 a2 a3) = (traverse a0 a1 a2 a3)) = true from decide_eq_true rfl]
    have hc105 := blk2 (Ext.block h23 HB0m3.out)
    have hc106 := blk10 (Ext.block h23 HB1m3.out)
    have hc107 := blk12 (Ext.block h23 spHBm3.out)
    have hc108 := blk2 (Ext.block h23 HB6m3.out)
    have hc109 := blk10 (Ext.block h23 HB9m3.out)
    have hc110 := blk12 (Ext.block h23 HB11m3.out)
    go_wp2_with fail
    refine (l_markTrace ((traverse a0 a1 a2 a3)) (.slice gpp0 ((traverse a0 a1 a2 a3).steps).length gpc0) (.slice gpp1 ((traverse a0 a1 a2 a3).pkt.path.parts).length gpc1) (.slice gpp2 ((traverse a0 a1 a2 a3).pkt.pay).length gpc2) (1) _ _ (Trc.own_ext gpo0_m3 h23) (by omega) (by omega)).mono ?_
    rintro e w24 ⟨rfl, mgo, mgc⟩
    have HB0m4 := Lib.hid (Chg.blk mgc (Ext.block h23 HB0m3.out) (.inl (Nat.lt_of_lt_of_le (blk_lt HB0.out) ((((((((e1.trans h3).trans h4).trans sphx).trans h6).trans e6).trans h8).trans h9).trans e9).size)))
    have HB1m4 := Lib.hid (Chg.blk mgc (Ext.block h23 HB1m3.out) (.inl (Nat.lt_of_lt_of_le (blk_lt HB1.out) (((((((h3.trans h4).trans sphx).trans h6).trans e6).trans h8).trans h9).trans e9).size)))
    have spHBm4 := Lib.hid (Chg.blk mgc (Ext.block h23 spHBm3.out) (.inl (Nat.lt_of_lt_of_le (blk_lt spHB.out) ((((h6.trans e6).trans h8).trans h9).trans e9).size)))
    have HB6m4 := Lib.hid (Chg.blk mgc (Ext.block h23 HB6m3.out) (.inl (Nat.lt_of_lt_of_le (blk_lt HB6.out) ((h8.trans h9).trans e9).size)))
    have HB9m4 := Lib.hid (Chg.blk mgc (Ext.block h23 HB9m3.out) (.inl (Nat.lt_of_lt_of_le (blk_lt HB9.out) (Ext.refl _).size)))
    have HB11m4 := Lib.hid (Chg.blk mgc (Ext.block h23 HB11m3.out) (.inr (Ext.refl _).size))
    have spoo_m4 := Trc.own_kept (Trc.own_ext spoo_m3 h23) mgc (rng_apart (.inl ((((h6.trans e6).trans h8).trans h9).trans e9).size))
    have mx0o_m4 := Topo.own_kept (Topo.own_ext mx0o_m3 h23) mgc (rng_apart (.inl (((e6.trans h8).trans h9).trans e9).size))
    have mx2o_m4 := Own.kept _ (Own.ext mx2o_m3 h23) mgc (rng_apart (.inl (h9.trans e9).size))
    have mx3o_m4 := Pkt.own_kept (Pkt.own_ext mx3o h23) mgc (rng_apart (.inl e9.size))
    have t0o0_m4 := Topo.own_kept (Topo.own_ext t0o0_m3 h23) mgc (rng_apart (.inr (e11.trans h13).size))
    have t2o0q_m4 := Own.kept _ (Own.ext t2o0q_m3 h23) mgc (rng_apart (.inr (((e11.trans h13).trans ((Ext.refl _).drew.trans h14)).trans h15).size))
    have t3o0_m4 := Pkt.own_kept (Pkt.own_ext t3o0_m3 h23) mgc (rng_apart (.inr (((((e11.trans h13).trans ((Ext.refl _).drew.trans h14)).trans h15).trans h16).trans h17).size))
    have X4 := Ext.chg (X3.trans h23) mgc (fun i hi => Nat.le_trans (((((((((e0.trans e1).trans h3).trans h4).trans sphx).trans h6).trans e6).trans h8).trans h9).trans e9).size hi.1)
    have hc111 := blk2 HB0m4.out
    have hc112 := blk10 HB1m4.out
    have hc113 := blk12 spHBm4.out
    have hc114 := blk2 HB6m4.out
    have hc115 := blk10 HB9m4.out
    have hc116 := blk12 HB11m4.out
    go_wp2_with fail
    refine (l_heldTrace ((traverse a0 a1 a2 a3)) (.slice gpp0 ((traverse a0 a1 a2 a3).steps).length gpc0) (.slice gpp1 ((traverse a0 a1 a2 a3).pkt.path.parts).length gpc1) (.slice gpp2 ((traverse a0 a1 a2 a3).pkt.pay).length gpc2) (1) _ (Trc.own_rd0 mgo) (Trc.own_rd1 mgo) (Trc.own_rd2 mgo) (by omega) (by omega)).mono ?_
    rintro e w25 ⟨rfl, h25⟩
    have hmp : ¬ (1 + ((traverse a0 a1 a2 a3)).cnt) < 0 := by omega
    have hc117 := blk2 (Ext.block h25 HB0m4.out)
    have hc118 := blk10 (Ext.block h25 HB1m4.out)
    have hc119 := blk12 (Ext.block h25 spHBm4.out)
    have hc120 := blk2 (Ext.block h25 HB6m4.out)
    have hc121 := blk10 (Ext.block h25 HB9m4.out)
    have hc122 := blk12 (Ext.block h25 HB11m4.out)
    go_upto_region 37 with (fail)
    go_cut [18] (fun vb wx => ∃ g hpu0 hpu1 hpu2, vb = .pointer (some ⟨g, 0, none⟩) ∧ wx.heap[g]? = some (.cells #[.int .i64 (traverse a0 a1 a2 a3).code, hpu0, .int .i64 (traverse a0 a1 a2 a3).pkt.kind, .int .i64 (traverse a0 a1 a2 a3).pkt.src, .int .i64 (traverse a0 a1 a2 a3).pkt.dst, hpu1, .int .i64 (traverse a0 a1 a2 a3).pkt.pi, .int .i64 (traverse a0 a1 a2 a3).pkt.hi, .int .i64 (traverse a0 a1 a2 a3).pkt.beta, .int .i64 (traverse a0 a1 a2 a3).pkt.rid, .int .i64 (traverse a0 a1 a2 a3).pkt.seq, hpu2] 42) ∧ w25.heap.size ≤ g ∧ Trc.own (rng w25.heap.size wx.heap.size) wx hpu0 hpu1 hpu2 (traverse a0 a1 a2 a3) ∧ Ext w25 wx)
    case first =>
      refine planStep (.blk [0, 2, 3, 5] (.two 1 8 (.two 4 8 (.two 6 8 (.two 7 8 (.one 8 (.one 9 .done)) (.one 7 (.one 9 .done))) (.one 6 (.one 7 (.one 9 .done)))) (.one 4 (.one 6 (.one 7 (.one 9 .done))))) (.one 1 (.one 4 (.one 6 (.one 7 (.one 9 .done))))))) [9] (by kernel_rfl) (by kernel_rfl) ?_
      refine blkStep (fun K HK => ?_)
      simp only [pick, List.filterMap_cons, List.filterMap_nil, List.getElem?_toArray, List.getElem?_cons_zero, List.getElem?_cons_succ]
      go_wp2_with fail
      refine HK.out _ _ ?_
      clear HK K
      refine twoStep ?_ ?_
      · refine oneStep (fun K HK => ?_)
        simp only [pick, List.filterMap_cons, List.filterMap_nil, List.getElem?_toArray, List.getElem?_cons_zero, List.getElem?_cons_succ]
        go_wp2_with fail
        refine (l_toTopologyO a0 v0h0 v0h1 _ (r0h0.ext ((X4.trans h25).trans (Ext.refl _).drew)) (r0h1.ext ((X4.trans h25).trans (Ext.refl _).drew)) y0).mono ?_
        rintro e hpw0 ⟨hp0v0, hp0v1, rfl, hp0o, hph0⟩
        have hc123 := blk2 (Ext.block (h25.trans ((Ext.refl _).drew.trans hph0)) HB0m4.out)
        have hc124 := blk10 (Ext.block (h25.trans ((Ext.refl _).drew.trans hph0)) HB1m4.out)
        have hc125 := blk12 (Ext.block (h25.trans ((Ext.refl _).drew.trans hph0)) spHBm4.out)
        have hc126 := blk2 (Ext.block (h25.trans ((Ext.refl _).drew.trans hph0)) HB6m4.out)
        have hc127 := blk10 (Ext.block (h25.trans ((Ext.refl _).drew.trans hph0)) HB9m4.out)
        have hc128 := blk12 (Ext.block (h25.trans ((Ext.refl _).drew.trans hph0)) HB11m4.out)
        go_wp2_with fail
        refine HK.out _ _ hph0 ?_
        clear HK K
        refine twoStep ?_ ?_
        · refine oneStep (fun K HK => ?_)
          simp only [pick, List.filterMap_cons, List.filterMap_nil, List.getElem?_toArray, List.getElem?_cons_zero, List.getElem?_cons_succ]
          go_wp2_with fail
          refine (l_toIntS a2 _ _ (r2h0.ext ((X4.trans h25).trans ((Ext.refl _).drew.trans hph0))) y2).mono ?_
          rintro e hpw1 ⟨hp2v0, rfl, hp2o, hph1⟩
          have hp2oq := Own.ofF (hf := intFlen) hp2o
          have hc129 := blk2 (Ext.block (h25.trans (((Ext.refl _).drew.trans hph0).trans hph1)) HB0m4.out)
          have hc130 := blk10 (Ext.block (h25.trans (((Ext.refl _).drew.trans hph0).trans hph1)) HB1m4.out)
          have hc131 := blk12 (Ext.block (h25.trans (((Ext.refl _).drew.trans hph0).trans hph1)) spHBm4.out)
          have hc132 := blk2 (Ext.block (h25.trans (((Ext.refl _).drew.trans hph0).trans hph1)) HB6m4.out)
          have hc133 := blk10 (Ext.block (h25.trans (((Ext.refl _).drew.trans hph0).trans hph1)) HB9m4.out)
          have hc134 := blk12 (Ext.block (h25.trans (((Ext.refl _).drew.trans hph0).trans hph1)) HB11m4.out)
          go_wp2_with fail
          refine HK.out _ _ hph1 ?_
          clear HK K
          refine twoStep ?_ ?_
          · refine oneStep (fun K HK => ?_)
            simp only [pick, List.filterMap_cons, List.filterMap_nil, List.getElem?_toArray, List.getElem?_cons_zero, List.getElem?_cons_succ]
            go_wp2_with fail
            refine (l_toPacket a3 v3h0 v3h1 _ (r3h0.ext ((X4.trans h25).trans (((Ext.refl _).drew.trans hph0).trans hph1))) (r3h1.ext ((X4.trans h25).trans (((Ext.refl _).drew.trans hph0).trans hph1))) y3).mono ?_
            rintro e hpw2 ⟨hp3v0, hp3v1, rfl, hp3o, hph2⟩
            have hc135 := blk2 (Ext.block (h25.trans ((((Ext.refl _).drew.trans hph0).trans hph1).trans hph2)) HB0m4.out)
            have hc136 := blk10 (Ext.block (h25.trans ((((Ext.refl _).drew.trans hph0).trans hph1).trans hph2)) HB1m4.out)
            have hc137 := blk12 (Ext.block (h25.trans ((((Ext.refl _).drew.trans hph0).trans hph1).trans hph2)) spHBm4.out)
            have hc138 := blk2 (Ext.block (h25.trans ((((Ext.refl _).drew.trans hph0).trans hph1).trans hph2)) HB6m4.out)
            have hc139 := blk10 (Ext.block (h25.trans ((((Ext.refl _).drew.trans hph0).trans hph1).trans hph2)) HB9m4.out)
            have hc140 := blk12 (Ext.block (h25.trans ((((Ext.refl _).drew.trans hph0).trans hph1).trans hph2)) HB11m4.out)
            go_wp2_with fail
            refine HK.out _ _ hph2 ?_
            clear HK K
            refine twoStep ?_ ?_
            · refine oneStep (fun K HK => ?_)
              simp only [pick, List.filterMap_cons, List.filterMap_nil, List.getElem?_toArray, List.getElem?_cons_zero, List.getElem?_cons_succ]
              go_wp2_with fail
              refine (i_Traverse a0 hp0v0 hp0v1 a1 a2 hp2v0 a3 hp3v0 hp3v1 _ (Topo.own_rd0 (Topo.own_ext hp0o (hph1.trans hph2))) (Topo.own_rd1 (Topo.own_ext hp0o (hph1.trans hph2))) (((Own.flat intF 1 intFlen 3)).rd (Own.ext hp2oq hph2)) (Pkt.own_rd0 (Pkt.own_ext hp3o (Ext.refl _))) (Pkt.own_rd1 (Pkt.own_ext hp3o (Ext.refl _))) y0 y3).mono ?_
              rintro e hpw3 ⟨hpu0, hpu1, hpu2, rfl, hpoo, hph3⟩
              obtain ⟨hpp0, hpc0, rfl, hpl0⟩ := (Trc.own_rd0 hpoo).shape; clear hpl0
              obtain ⟨hpp1, hpc1, rfl, hpl1⟩ := (Trc.own_rd1 hpoo).shape; clear hpl1
              obtain ⟨hpp2, hpc2, rfl, hpl2⟩ := (Trc.own_rd2 hpoo).shape; clear hpl2
              have hc141 := blk2 (Ext.block (h25.trans (((((Ext.refl _).drew.trans hph0).trans hph1).trans hph2).trans hph3)) HB0m4.out)
              have hc142 := blk10 (Ext.block (h25.trans (((((Ext.refl _).drew.trans hph0).trans hph1).trans hph2).trans hph3)) HB1m4.out)
              have hc143 := blk12 (Ext.block (h25.trans (((((Ext.refl _).drew.trans hph0).trans hph1).trans hph2).trans hph3)) spHBm4.out)
              have hc144 := blk2 (Ext.block (h25.trans (((((Ext.refl _).drew.trans hph0).trans hph1).trans hph2).trans hph3)) HB6m4.out)
              have hc145 := blk10 (Ext.block (h25.trans (((((Ext.refl _).drew.trans hph0).trans hph1).trans hph2).trans hph3)) HB9m4.out)
              have hc146 := blk12 (Ext.block (h25.trans (((((Ext.refl _).drew.trans hph0).trans hph1).trans hph2).trans hph3)) HB11m4.out)
              go_wp2_with fail
              refine HK.out _ _ hph3 ?_
              clear HK K
              refine oneStep (fun K HK => ?_)
              simp only [pick, List.filterMap_cons, List.filterMap_nil, List.getElem?_toArray, List.getElem?_cons_zero, List.getElem?_cons_succ]
              go_wp2_with fail
              refine HK.out _ _ ((Ext.refl _).alloc _) ?_
              clear HK K
              refine badStep (by kernel_rfl) (fun K HK => ?_)
              simp only [pick, List.filterMap_cons, List.filterMap_nil, List.getElem?_toArray, List.getElem?_cons_zero, List.getElem?_cons_succ]
              go_wp2_with fail
              refine HK.out _ _ ?_
              clear HK K
              refine doneStep (by kernel_rfl) ?_
              go_wp2_with fail
              go_meet
              exact ⟨_, _, _, _, rfl, blk_new _ _, (((((Ext.refl _).drew.trans hph0).trans hph1).trans hph2).trans hph3).size, Trc.own_mono (Trc.own_ext hpoo ((Ext.refl _).alloc _)) (fun b hb => ⟨by have h1 := hb.1; exact Nat.le_trans ((((Ext.refl _).drew.trans hph0).trans hph1).trans hph2).size h1, Nat.lt_of_lt_of_le hb.2 ((Ext.refl _).alloc _).size⟩), (((((Ext.refl _).drew.trans hph0).trans hph1).trans hph2).trans hph3).alloc _⟩
            · have hphba := blk_new hpw2 (.cells #[.int .i64 0, .slice none 0 0, .int .i64 0, .int .i64 0, .int .i64 0, .slice none 0 0, .int .i64 0, .int .i64 0, .int .i64 0, .int .i64 0, .int .i64 0, .slice none 0 0] 42)
              have hpHBA := Lib.hid hphba; clear hphba
              refine oneStep (fun K HK => ?_)
              simp only [pick, List.filterMap_cons, List.filterMap_nil, List.getElem?_toArray, List.getElem?_cons_zero, List.getElem?_cons_succ]
              go_wp2_with fail
              refine HK.out _ _ ((Ext.refl _).alloc _) ?_
              clear HK K
              refine oneStep (fun K HK => ?_)
              simp only [pick, List.filterMap_cons, List.filterMap_nil, List.getElem?_toArray, List.getElem?_cons_zero, List.getElem?_cons_succ]
              go_wp2_with fail
              refine (i_Traverse a0 hp0v0 hp0v1 a1 a2 hp2v0 a3 hp3v0 hp3v1 _ (Topo.own_rd0 (Topo.own_ext hp0o ((hph1.trans hph2).trans ((Ext.refl _).alloc _)))) (Topo.own_rd1 (Topo.own_ext hp0o ((hph1.trans hph2).trans ((Ext.refl _).alloc _)))) (((Own.flat intF 1 intFlen 3)).rd (Own.ext hp2oq (hph2.trans ((Ext.refl _).alloc _)))) (Pkt.own_rd0 (Pkt.own_ext hp3o ((Ext.refl _).alloc _))) (Pkt.own_rd1 (Pkt.own_ext hp3o ((Ext.refl _).alloc _))) y0 y3).mono ?_
              rintro e hpw3 ⟨hpu0, hpu1, hpu2, rfl, hpoo, hph3⟩
              obtain ⟨hpp0, hpc0, rfl, hpl0⟩ := (Trc.own_rd0 hpoo).shape; clear hpl0
              obtain ⟨hpp1, hpc1, rfl, hpl1⟩ := (Trc.own_rd1 hpoo).shape; clear hpl1
              obtain ⟨hpp2, hpc2, rfl, hpl2⟩ := (Trc.own_rd2 hpoo).shape; clear hpl2
              have hc147 := blk2 (Ext.block (h25.trans ((((((Ext.refl _).drew.trans hph0).trans hph1).trans hph2).trans ((Ext.refl _).alloc _)).trans hph3)) HB0m4.out)
              have hc148 := blk10 (Ext.block (h25.trans ((((((Ext.refl _).drew.trans hph0).trans hph1).trans hph2).trans ((Ext.refl _).alloc _)).trans hph3)) HB1m4.out)
              have hc149 := blk12 (Ext.block (h25.trans ((((((Ext.refl _).drew.trans hph0).trans hph1).trans hph2).trans ((Ext.refl _).alloc _)).trans hph3)) spHBm4.out)
              have hc150 := blk2 (Ext.block (h25.trans ((((((Ext.refl _).drew.trans hph0).trans hph1).trans hph2).trans ((Ext.refl _).alloc _)).trans hph3)) HB6m4.out)
              have hc151 := blk10 (Ext.block (h25.trans ((((((Ext.refl _).drew.trans hph0).trans hph1).trans hph2).trans ((Ext.refl _).alloc _)).trans hph3)) HB9m4.out)
              have hc152 := blk12 (Ext.block (h25.trans ((((((Ext.refl _).drew.trans hph0).trans hph1).trans hph2).trans ((Ext.refl _).alloc _)).trans hph3)) HB11m4.out)
              go_wp2_with fail
              refine HK.out _ _ hph3 ?_
              clear HK K
              have hphbs := Ext.block hph3 hpHBA.out
              have hpcs := blk12 hphbs
              have hpf0 := fr_of hphbs 0
              have hpf1 := fr_of hphbs 1
              have hpf2 := fr_of hphbs 2
              have hpf3 := fr_of hphbs 3
              have hpf4 := fr_of hphbs 4
              have hpf5 := fr_of hphbs 5
              have hpf6 := fr_of hphbs 6
              have hpf7 := fr_of hphbs 7
              have hpf8 := fr_of hphbs 8
              have hpf9 := fr_of hphbs 9
              have hpf10 := fr_of hphbs 10
              have hpf11 := fr_of hphbs 11
              have hpHBS := Lib.hid hphbs; clear hphbs
              refine badStep (by kernel_rfl) (fun K HK => ?_)
              simp only [pick, List.filterMap_cons, List.filterMap_nil, List.getElem?_toArray, List.getElem?_cons_zero, List.getElem?_cons_succ]
              go_wp2_with fail
              refine HK.out _ _ ?_
              clear HK K
              refine doneStep (by kernel_rfl) ?_
              go_wp2_with fail
              go_meet
              obtain ⟨wq, hwq, hbq, hcq, hsq⟩ := vd_set hpHBS.out (.int .i64 (traverse a0 a1 a2 a3).code) ((.slice hpp0 ((traverse a0 a1 a2 a3).steps).length hpc0)) (.int .i64 (traverse a0 a1 a2 a3).pkt.kind) (.int .i64 (traverse a0 a1 a2 a3).pkt.src) (.int .i64 (traverse a0 a1 a2 a3).pkt.dst) ((.slice hpp1 ((traverse a0 a1 a2 a3).pkt.path.parts).length hpc1)) (.int .i64 (traverse a0 a1 a2 a3).pkt.pi) (.int .i64 (traverse a0 a1 a2 a3).pkt.hi) (.int .i64 (traverse a0 a1 a2 a3).pkt.beta) (.int .i64 (traverse a0 a1 a2 a3).pkt.rid) (.int .i64 (traverse a0 a1 a2 a3).pkt.seq) ((.slice hpp2 ((traverse a0 a1 a2 a3).pkt.pay).length hpc2))
              rw [← hwq]
              exact ⟨_, _, _, _, rfl, hbq, ((((Ext.refl _).drew.trans hph0).trans hph1).trans hph2).size, Trc.own_mono (Trc.own_kept (Trc.own_ext hpoo (Ext.refl _)) hcq (fun b hb e => absurd hb.1 (by rw [e]; exact Nat.not_le.2 (Nat.lt_of_lt_of_le (blk_lt hpHBA.out) (Ext.refl _).size)))) (fun b hb => ⟨Nat.le_trans (((((Ext.refl _).drew.trans hph0).trans hph1).trans hph2).trans ((Ext.refl _).alloc _)).size hb.1, by rw [hsq]; exact Nat.lt_of_lt_of_le hb.2 (Ext.refl _).size⟩), ((((((Ext.refl _).drew.trans hph0).trans hph1).trans hph2).trans ((Ext.refl _).alloc _)).trans hph3).chg1 hcq ((((Ext.refl _).drew.trans hph0).trans hph1).trans hph2).size⟩
          · have hphba := blk_new hpw1 (.cells #[.int .i64 0, .slice none 0 0, .int .i64 0, .int .i64 0, .int .i64 0, .slice none 0 0, .int .i64 0, .int .i64 0, .int .i64 0, .int .i64 0, .int .i64 0, .slice none 0 0] 42)
            have hpHBA := Lib.hid hphba; clear hphba
            refine oneStep (fun K HK => ?_)
            simp only [pick, List.filterMap_cons, List.filterMap_nil, List.getElem?_toArray, List.getElem?_cons_zero, List.getElem?_cons_succ]
            go_wp2_with fail
            refine HK.out _ _ ((Ext.refl _).alloc _) ?_
            clear HK K
            refine oneStep (fun K HK => ?_)
            simp only [pick, List.filterMap_cons, List.filterMap_nil, List.getElem?_toArray, List.getElem?_cons_zero, List.getElem?_cons_succ]
            go_wp2_with fail
            refine (l_toPacket a3 v3h0 v3h1 _ (r3h0.ext ((X4.trans h25).trans ((((Ext.refl _).drew.trans hph0).trans hph1).trans ((Ext.refl _).alloc _)))) (r3h1.ext ((X4.trans h25).trans ((((Ext.refl _).drew.trans hph0).trans hph1).trans ((Ext.refl _).alloc _)))) y3).mono ?_
            rintro e hpw2 ⟨hp3v0, hp3v1, rfl, hp3o, hph2⟩
            have hc153 := blk2 (Ext.block (h25.trans (((((Ext.refl _).drew.trans hph0).trans hph1).trans ((Ext.refl _).alloc _)).trans hph2)) HB0m4.out)
            have hc154 := blk10 (Ext.block (h25.trans (((((Ext.refl _).drew.trans hph0).trans hph1).trans ((Ext.refl _).alloc _)).trans hph2)) HB1m4.out)
            have hc155 := blk12 (Ext.block (h25.trans (((((Ext.refl _).drew.trans hph0).trans hph1).trans ((Ext.refl _).alloc _)).trans hph2)) spHBm4.out)
            have hc156 := blk2 (Ext.block (h25.trans (((((Ext.refl _).drew.trans hph0).trans hph1).trans ((Ext.refl _).alloc _)).trans hph2)) HB6m4.out)
            have hc157 := blk10 (Ext.block (h25.trans (((((Ext.refl _).drew.trans hph0).trans hph1).trans ((Ext.refl _).alloc _)).trans hph2)) HB9m4.out)
            have hc158 := blk12 (Ext.block (h25.trans (((((Ext.refl _).drew.trans hph0).trans hph1).trans ((Ext.refl _).alloc _)).trans hph2)) HB11m4.out)
            go_wp2_with fail
            refine HK.out _ _ hph2 ?_
            clear HK K
            refine oneStep (fun K HK => ?_)
            simp only [pick, List.filterMap_cons, List.filterMap_nil, List.getElem?_toArray, List.getElem?_cons_zero, List.getElem?_cons_succ]
            go_wp2_with fail
            refine (i_Traverse a0 hp0v0 hp0v1 a1 a2 hp2v0 a3 hp3v0 hp3v1 _ (Topo.own_rd0 (Topo.own_ext hp0o ((hph1.trans ((Ext.refl _).alloc _)).trans hph2))) (Topo.own_rd1 (Topo.own_ext hp0o ((hph1.trans ((Ext.refl _).alloc _)).trans hph2))) (((Own.flat intF 1 intFlen 3)).rd (Own.ext hp2oq (((Ext.refl _).alloc _).trans hph2))) (Pkt.own_rd0 (Pkt.own_ext hp3o (Ext.refl _))) (Pkt.own_rd1 (Pkt.own_ext hp3o (Ext.refl _))) y0 y3).mono ?_
            rintro e hpw3 ⟨hpu0, hpu1, hpu2, rfl, hpoo, hph3⟩
            obtain ⟨hpp0, hpc0, rfl, hpl0⟩ := (Trc.own_rd0 hpoo).shape; clear hpl0
            obtain ⟨hpp1, hpc1, rfl, hpl1⟩ := (Trc.own_rd1 hpoo).shape; clear hpl1
            obtain ⟨hpp2, hpc2, rfl, hpl2⟩ := (Trc.own_rd2 hpoo).shape; clear hpl2
            have hc159 := blk2 (Ext.block (h25.trans ((((((Ext.refl _).drew.trans hph0).trans hph1).trans ((Ext.refl _).alloc _)).trans hph2).trans hph3)) HB0m4.out)
            have hc160 := blk10 (Ext.block (h25.trans ((((((Ext.refl _).drew.trans hph0).trans hph1).trans ((Ext.refl _).alloc _)).trans hph2).trans hph3)) HB1m4.out)
            have hc161 := blk12 (Ext.block (h25.trans ((((((Ext.refl _).drew.trans hph0).trans hph1).trans ((Ext.refl _).alloc _)).trans hph2).trans hph3)) spHBm4.out)
            have hc162 := blk2 (Ext.block (h25.trans ((((((Ext.refl _).drew.trans hph0).trans hph1).trans ((Ext.refl _).alloc _)).trans hph2).trans hph3)) HB6m4.out)
            have hc163 := blk10 (Ext.block (h25.trans ((((((Ext.refl _).drew.trans hph0).trans hph1).trans ((Ext.refl _).alloc _)).trans hph2).trans hph3)) HB9m4.out)
            have hc164 := blk12 (Ext.block (h25.trans ((((((Ext.refl _).drew.trans hph0).trans hph1).trans ((Ext.refl _).alloc _)).trans hph2).trans hph3)) HB11m4.out)
            go_wp2_with fail
            refine HK.out _ _ hph3 ?_
            clear HK K
            have hphbs := Ext.block (hph2.trans hph3) hpHBA.out
            have hpcs := blk12 hphbs
            have hpf0 := fr_of hphbs 0
            have hpf1 := fr_of hphbs 1
            have hpf2 := fr_of hphbs 2
            have hpf3 := fr_of hphbs 3
            have hpf4 := fr_of hphbs 4
            have hpf5 := fr_of hphbs 5
            have hpf6 := fr_of hphbs 6
            have hpf7 := fr_of hphbs 7
            have hpf8 := fr_of hphbs 8
            have hpf9 := fr_of hphbs 9
            have hpf10 := fr_of hphbs 10
            have hpf11 := fr_of hphbs 11
            have hpHBS := Lib.hid hphbs; clear hphbs
            refine badStep (by kernel_rfl) (fun K HK => ?_)
            simp only [pick, List.filterMap_cons, List.filterMap_nil, List.getElem?_toArray, List.getElem?_cons_zero, List.getElem?_cons_succ]
            go_wp2_with fail
            refine HK.out _ _ ?_
            clear HK K
            refine doneStep (by kernel_rfl) ?_
            go_wp2_with fail
            go_meet
            obtain ⟨wq, hwq, hbq, hcq, hsq⟩ := vd_set hpHBS.out (.int .i64 (traverse a0 a1 a2 a3).code) ((.slice hpp0 ((traverse a0 a1 a2 a3).steps).length hpc0)) (.int .i64 (traverse a0 a1 a2 a3).pkt.kind) (.int .i64 (traverse a0 a1 a2 a3).pkt.src) (.int .i64 (traverse a0 a1 a2 a3).pkt.dst) ((.slice hpp1 ((traverse a0 a1 a2 a3).pkt.path.parts).length hpc1)) (.int .i64 (traverse a0 a1 a2 a3).pkt.pi) (.int .i64 (traverse a0 a1 a2 a3).pkt.hi) (.int .i64 (traverse a0 a1 a2 a3).pkt.beta) (.int .i64 (traverse a0 a1 a2 a3).pkt.rid) (.int .i64 (traverse a0 a1 a2 a3).pkt.seq) ((.slice hpp2 ((traverse a0 a1 a2 a3).pkt.pay).length hpc2))
            rw [← hwq]
            exact ⟨_, _, _, _, rfl, hbq, (((Ext.refl _).drew.trans hph0).trans hph1).size, Trc.own_mono (Trc.own_kept (Trc.own_ext hpoo (Ext.refl _)) hcq (fun b hb e => absurd hb.1 (by rw [e]; exact Nat.not_le.2 (Nat.lt_of_lt_of_le (blk_lt hpHBA.out) hph2.size)))) (fun b hb => ⟨Nat.le_trans (((((Ext.refl _).drew.trans hph0).trans hph1).trans ((Ext.refl _).alloc _)).trans hph2).size hb.1, by rw [hsq]; exact Nat.lt_of_lt_of_le hb.2 (Ext.refl _).size⟩), ((((((Ext.refl _).drew.trans hph0).trans hph1).trans ((Ext.refl _).alloc _)).trans hph2).trans hph3).chg1 hcq (((Ext.refl _).drew.trans hph0).trans hph1).size⟩
        · have hphba := blk_new hpw0 (.cells #[.int .i64 0, .slice none 0 0, .int .i64 0, .int .i64 0, .int .i64 0, .slice none 0 0, .int .i64 0, .int .i64 0, .int .i64 0, .int .i64 0, .int .i64 0, .slice none 0 0] 42)
          have hpHBA := Lib.hid hphba; clear hphba
          refine oneStep (fun K HK => ?_)
          simp only [pick, List.filterMap_cons, List.filterMap_nil, List.getElem?_toArray, List.getElem?_cons_zero, List.getElem?_cons_succ]
          go_wp2_with fail
          refine HK.out _ _ ((Ext.refl _).alloc _) ?_
          clear HK K
          refine oneStep (fun K HK => ?_)
          simp only [pick, List.filterMap_cons, List.filterMap_nil, List.getElem?_toArray, List.getElem?_cons_zero, List.getElem?_cons_succ]
          go_wp2_with fail
          refine (l_toIntS a2 _ _ (r2h0.ext ((X4.trans h25).trans (((Ext.refl _).drew.trans hph0).trans ((Ext.refl _).alloc _)))) y2).mono ?_
          rintro e hpw1 ⟨hp2v0, rfl, hp2o, hph1⟩
          have hp2oq := Own.ofF (hf := intFlen) hp2o
          have hc165 := blk2 (Ext.block (h25.trans ((((Ext.refl _).drew.trans hph0).trans ((Ext.refl _).alloc _)).trans hph1)) HB0m4.out)
          have hc166 := blk10 (Ext.block (h25.trans ((((Ext.refl _).drew.trans hph0).trans ((Ext.refl _).alloc _)).trans hph1)) HB1m4.out)
          have hc167 := blk12 (Ext.block (h25.trans ((((Ext.refl _).drew.trans hph0).trans ((Ext.refl _).alloc _)).trans hph1)) spHBm4.out)
          have hc168 := blk2 (Ext.block (h25.trans ((((Ext.refl _).drew.trans hph0).trans ((Ext.refl _).alloc _)).trans hph1)) HB6m4.out)
          have hc169 := blk10 (Ext.block (h25.trans ((((Ext.refl _).drew.trans hph0).trans ((Ext.refl _).alloc _)).trans hph1)) HB9m4.out)
          have hc170 := blk12 (Ext.block (h25.trans ((((Ext.refl _).drew.trans hph0).trans ((Ext.refl _).alloc _)).trans hph1)) HB11m4.out)
          go_wp2_with fail
          refine HK.out _ _ hph1 ?_
          clear HK K
          refine oneStep (fun K HK => ?_)
          simp only [pick, List.filterMap_cons, List.filterMap_nil, List.getElem?_toArray, List.getElem?_cons_zero, List.getElem?_cons_succ]
          go_wp2_with fail
          refine (l_toPacket a3 v3h0 v3h1 _ (r3h0.ext ((X4.trans h25).trans ((((Ext.refl _).drew.trans hph0).trans ((Ext.refl _).alloc _)).trans hph1))) (r3h1.ext ((X4.trans h25).trans ((((Ext.refl _).drew.trans hph0).trans ((Ext.refl _).alloc _)).trans hph1))) y3).mono ?_
          rintro e hpw2 ⟨hp3v0, hp3v1, rfl, hp3o, hph2⟩
          have hc171 := blk2 (Ext.block (h25.trans (((((Ext.refl _).drew.trans hph0).trans ((Ext.refl _).alloc _)).trans hph1).trans hph2)) HB0m4.out)
          have hc172 := blk10 (Ext.block (h25.trans (((((Ext.refl _).drew.trans hph0).trans ((Ext.refl _).alloc _)).trans hph1).trans hph2)) HB1m4.out)
          have hc173 := blk12 (Ext.block (h25.trans (((((Ext.refl _).drew.trans hph0).trans ((Ext.refl _).alloc _)).trans hph1).trans hph2)) spHBm4.out)
          have hc174 := blk2 (Ext.block (h25.trans (((((Ext.refl _).drew.trans hph0).trans ((Ext.refl _).alloc _)).trans hph1).trans hph2)) HB6m4.out)
          have hc175 := blk10 (Ext.block (h25.trans (((((Ext.refl _).drew.trans hph0).trans ((Ext.refl _).alloc _)).trans hph1).trans hph2)) HB9m4.out)
          have hc176 := blk12 (Ext.block (h25.trans (((((Ext.refl _).drew.trans hph0).trans ((Ext.refl _).alloc _)).trans hph1).trans hph2)) HB11m4.out)
          go_wp2_with fail
          refine HK.out _ _ hph2 ?_
          clear HK K
          refine oneStep (fun K HK => ?_)
          simp only [pick, List.filterMap_cons, List.filterMap_nil, List.getElem?_toArray, List.getElem?_cons_zero, List.getElem?_cons_succ]
          go_wp2_with fail
          refine (i_Traverse a0 hp0v0 hp0v1 a1 a2 hp2v0 a3 hp3v0 hp3v1 _ (Topo.own_rd0 (Topo.own_ext hp0o ((((Ext.refl _).alloc _).trans hph1).trans hph2))) (Topo.own_rd1 (Topo.own_ext hp0o ((((Ext.refl _).alloc _).trans hph1).trans hph2))) (((Own.flat intF 1 intFlen 3)).rd (Own.ext hp2oq hph2)) (Pkt.own_rd0 (Pkt.own_ext hp3o (Ext.refl _))) (Pkt.own_rd1 (Pkt.own_ext hp3o (Ext.refl _))) y0 y3).mono ?_
          rintro e hpw3 ⟨hpu0, hpu1, hpu2, rfl, hpoo, hph3⟩
          obtain ⟨hpp0, hpc0, rfl, hpl0⟩ := (Trc.own_rd0 hpoo).shape; clear hpl0
          obtain ⟨hpp1, hpc1, rfl, hpl1⟩ := (Trc.own_rd1 hpoo).shape; clear hpl1
          obtain ⟨hpp2, hpc2, rfl, hpl2⟩ := (Trc.own_rd2 hpoo).shape; clear hpl2
          have hc177 := blk2 (Ext.block (h25.trans ((((((Ext.refl _).drew.trans hph0).trans ((Ext.refl _).alloc _)).trans hph1).trans hph2).trans hph3)) HB0m4.out)
          have hc178 := blk10 (Ext.block (h25.trans ((((((Ext.refl _).drew.trans hph0).trans ((Ext.refl _).alloc _)).trans hph1).trans hph2).trans hph3)) HB1m4.out)
          have hc179 := blk12 (Ext.block (h25.trans ((((((Ext.refl _).drew.trans hph0).trans ((Ext.refl _).alloc _)).trans hph1).trans hph2).trans hph3)) spHBm4.out)
          have hc180 := blk2 (Ext.block (h25.trans ((((((Ext.refl _).drew.trans hph0).trans ((Ext.refl _).alloc _)).trans hph1).trans hph2).trans hph3)) HB6m4.out)
          have hc181 := blk10 (Ext.block (h25.trans ((((((Ext.refl _).drew.trans hph0).trans ((Ext.refl _).alloc _)).trans hph1).trans hph2).trans hph3)) HB9m4.out)
          have hc182 := blk12 (Ext.block (h25.trans ((((((Ext.refl _).drew.trans hph0).trans ((Ext.refl _).alloc _)).trans hph1).trans hph2).trans hph3)) HB11m4.out)
          go_wp2_with fail
          refine HK.out _ _ hph3 ?_
          clear HK K
          have hphbs := Ext.block ((hph1.trans hph2).trans hph3) hpHBA.out
          have hpcs := blk12 hphbs
          have hpf0 := fr_of hphbs 0
          have hpf1 := fr_of hphbs 1
          have hpf2 := fr_of hphbs 2
          have hpf3 := fr_of hphbs 3
          have hpf4 := fr_of hphbs 4
          have hpf5 := fr_of hphbs 5
          have hpf6 := fr_of hphbs 6
          have hpf7 := fr_of hphbs 7
          have hpf8 := fr_of hphbs 8
          have hpf9 := fr_of hphbs 9
          have hpf10 := fr_of hphbs 10
          have hpf11 := fr_of hphbs 11
          have hpHBS := Lib.hid hphbs; clear hphbs
          refine badStep (by kernel_rfl) (fun K HK => ?_)
          simp only [pick, List.filterMap_cons, List.filterMap_nil, List.getElem?_toArray, List.getElem?_cons_zero, List.getElem?_cons_succ]
          go_wp2_with fail
          refine HK.out _ _ ?_
          clear HK K
          refine doneStep (by kernel_rfl) ?_
          go_wp2_with fail
          go_meet
          obtain ⟨wq, hwq, hbq, hcq, hsq⟩ := vd_set hpHBS.out (.int .i64 (traverse a0 a1 a2 a3).code) ((.slice hpp0 ((traverse a0 a1 a2 a3).steps).length hpc0)) (.int .i64 (traverse a0 a1 a2 a3).pkt.kind) (.int .i64 (traverse a0 a1 a2 a3).pkt.src) (.int .i64 (traverse a0 a1 a2 a3).pkt.dst) ((.slice hpp1 ((traverse a0 a1 a2 a3).pkt.path.parts).length hpc1)) (.int .i64 (traverse a0 a1 a2 a3).pkt.pi) (.int .i64 (traverse a0 a1 a2 a3).pkt.hi) (.int .i64 (traverse a0 a1 a2 a3).pkt.beta) (.int .i64 (traverse a0 a1 a2 a3).pkt.rid) (.int .i64 (traverse a0 a1 a2 a3).pkt.seq) ((.slice hpp2 ((traverse a0 a1 a2 a3).pkt.pay).length hpc2))
          rw [← hwq]
          exact ⟨_, _, _, _, rfl, hbq, ((Ext.refl _).drew.trans hph0).size, Trc.own_mono (Trc.own_kept (Trc.own_ext hpoo (Ext.refl _)) hcq (fun b hb e => absurd hb.1 (by rw [e]; exact Nat.not_le.2 (Nat.lt_of_lt_of_le (blk_lt hpHBA.out) (hph1.trans hph2).size)))) (fun b hb => ⟨Nat.le_trans (((((Ext.refl _).drew.trans hph0).trans ((Ext.refl _).alloc _)).trans hph1).trans hph2).size hb.1, by rw [hsq]; exact Nat.lt_of_lt_of_le hb.2 (Ext.refl _).size⟩), ((((((Ext.refl _).drew.trans hph0).trans ((Ext.refl _).alloc _)).trans hph1).trans hph2).trans hph3).chg1 hcq ((Ext.refl _).drew.trans hph0).size⟩
      · have hphba := blk_new w25 (.cells #[.int .i64 0, .slice none 0 0, .int .i64 0, .int .i64 0, .int .i64 0, .slice none 0 0, .int .i64 0, .int .i64 0, .int .i64 0, .int .i64 0, .int .i64 0, .slice none 0 0] 42)
        have hpHBA := Lib.hid hphba; clear hphba
        refine oneStep (fun K HK => ?_)
        simp only [pick, List.filterMap_cons, List.filterMap_nil, List.getElem?_toArray, List.getElem?_cons_zero, List.getElem?_cons_succ]
        go_wp2_with fail
        refine HK.out _ _ ((Ext.refl _).alloc _) ?_
        clear HK K
        refine oneStep (fun K HK => ?_)
        simp only [pick, List.filterMap_cons, List.filterMap_nil, List.getElem?_toArray, List.getElem?_cons_zero, List.getElem?_cons_succ]
        go_wp2_with fail
        refine (l_toTopologyO a0 v0h0 v0h1 _ (r0h0.ext ((X4.trans h25).trans ((Ext.refl _).drew.trans ((Ext.refl _).alloc _)))) (r0h1.ext ((X4.trans h25).trans ((Ext.refl _).drew.trans ((Ext.refl _).alloc _)))) y0).mono ?_
        rintro e hpw0 ⟨hp0v0, hp0v1, rfl, hp0o, hph0⟩
        have hc183 := blk2 (Ext.block (h25.trans (((Ext.refl _).drew.trans ((Ext.refl _).alloc _)).trans hph0)) HB0m4.out)
        have hc184 := blk10 (Ext.block (h25.trans (((Ext.refl _).drew.trans ((Ext.refl _).alloc _)).trans hph0)) HB1m4.out)
        have hc185 := blk12 (Ext.block (h25.trans (((Ext.refl _).drew.trans ((Ext.refl _).alloc _)).trans hph0)) spHBm4.out)
        have hc186 := blk2 (Ext.block (h25.trans (((Ext.refl _).drew.trans ((Ext.refl _).alloc _)).trans hph0)) HB6m4.out)
        have hc187 := blk10 (Ext.block (h25.trans (((Ext.refl _).drew.trans ((Ext.refl _).alloc _)).trans hph0)) HB9m4.out)
        have hc188 := blk12 (Ext.block (h25.trans (((Ext.refl _).drew.trans ((Ext.refl _).alloc _)).trans hph0)) HB11m4.out)
        go_wp2_with fail
        refine HK.out _ _ hph0 ?_
        clear HK K
        refine oneStep (fun K HK => ?_)
        simp only [pick, List.filterMap_cons, List.filterMap_nil, List.getElem?_toArray, List.getElem?_cons_zero, List.getElem?_cons_succ]
        go_wp2_with fail
        refine (l_toIntS a2 _ _ (r2h0.ext ((X4.trans h25).trans (((Ext.refl _).drew.trans ((Ext.refl _).alloc _)).trans hph0))) y2).mono ?_
        rintro e hpw1 ⟨hp2v0, rfl, hp2o, hph1⟩
        have hp2oq := Own.ofF (hf := intFlen) hp2o
        have hc189 := blk2 (Ext.block (h25.trans ((((Ext.refl _).drew.trans ((Ext.refl _).alloc _)).trans hph0).trans hph1)) HB0m4.out)
        have hc190 := blk10 (Ext.block (h25.trans ((((Ext.refl _).drew.trans ((Ext.refl _).alloc _)).trans hph0).trans hph1)) HB1m4.out)
        have hc191 := blk12 (Ext.block (h25.trans ((((Ext.refl _).drew.trans ((Ext.refl _).alloc _)).trans hph0).trans hph1)) spHBm4.out)
        have hc192 := blk2 (Ext.block (h25.trans ((((Ext.refl _).drew.trans ((Ext.refl _).alloc _)).trans hph0).trans hph1)) HB6m4.out)
        have hc193 := blk10 (Ext.block (h25.trans ((((Ext.refl _).drew.trans ((Ext.refl _).alloc _)).trans hph0).trans hph1)) HB9m4.out)
        have hc194 := blk12 (Ext.block (h25.trans ((((Ext.refl _).drew.trans ((Ext.refl _).alloc _)).trans hph0).trans hph1)) HB11m4.out)
        go_wp2_with fail
        refine HK.out _ _ hph1 ?_
        clear HK K
        refine oneStep (fun K HK => ?_)
        simp only [pick, List.filterMap_cons, List.filterMap_nil, List.getElem?_toArray, List.getElem?_cons_zero, List.getElem?_cons_succ]
        go_wp2_with fail
        refine (l_toPacket a3 v3h0 v3h1 _ (r3h0.ext ((X4.trans h25).trans ((((Ext.refl _).drew.trans ((Ext.refl _).alloc _)).trans hph0).trans hph1))) (r3h1.ext ((X4.trans h25).trans ((((Ext.refl _).drew.trans ((Ext.refl _).alloc _)).trans hph0).trans hph1))) y3).mono ?_
        rintro e hpw2 ⟨hp3v0, hp3v1, rfl, hp3o, hph2⟩
        have hc195 := blk2 (Ext.block (h25.trans (((((Ext.refl _).drew.trans ((Ext.refl _).alloc _)).trans hph0).trans hph1).trans hph2)) HB0m4.out)
        have hc196 := blk10 (Ext.block (h25.trans (((((Ext.refl _).drew.trans ((Ext.refl _).alloc _)).trans hph0).trans hph1).trans hph2)) HB1m4.out)
        have hc197 := blk12 (Ext.block (h25.trans (((((Ext.refl _).drew.trans ((Ext.refl _).alloc _)).trans hph0).trans hph1).trans hph2)) spHBm4.out)
        have hc198 := blk2 (Ext.block (h25.trans (((((Ext.refl _).drew.trans ((Ext.refl _).alloc _)).trans hph0).trans hph1).trans hph2)) HB6m4.out)
        have hc199 := blk10 (Ext.block (h25.trans (((((Ext.refl _).drew.trans ((Ext.refl _).alloc _)).trans hph0).trans hph1).trans hph2)) HB9m4.out)
        have hc200 := blk12 (Ext.block (h25.trans (((((Ext.refl _).drew.trans ((Ext.refl _).alloc _)).trans hph0).trans hph1).trans hph2)) HB11m4.out)
        go_wp2_with fail
        refine HK.out _ _ hph2 ?_
        clear HK K
        refine oneStep (fun K HK => ?_)
        simp only [pick, List.filterMap_cons, List.filterMap_nil, List.getElem?_toArray, List.getElem?_cons_zero, List.getElem?_cons_succ]
        go_wp2_with fail
        refine (i_Traverse a0 hp0v0 hp0v1 a1 a2 hp2v0 a3 hp3v0 hp3v1 _ (Topo.own_rd0 (Topo.own_ext hp0o (hph1.trans hph2))) (Topo.own_rd1 (Topo.own_ext hp0o (hph1.trans hph2))) (((Own.flat intF 1 intFlen 3)).rd (Own.ext hp2oq hph2)) (Pkt.own_rd0 (Pkt.own_ext hp3o (Ext.refl _))) (Pkt.own_rd1 (Pkt.own_ext hp3o (Ext.refl _))) y0 y3).mono ?_
        rintro e hpw3 ⟨hpu0, hpu1, hpu2, rfl, hpoo, hph3⟩
        obtain ⟨hpp0, hpc0, rfl, hpl0⟩ := (Trc.own_rd0 hpoo).shape; clear hpl0
        obtain ⟨hpp1, hpc1, rfl, hpl1⟩ := (Trc.own_rd1 hpoo).shape; clear hpl1
        obtain ⟨hpp2, hpc2, rfl, hpl2⟩ := (Trc.own_rd2 hpoo).shape; clear hpl2
        have hc201 := blk2 (Ext.block (h25.trans ((((((Ext.refl _).drew.trans ((Ext.refl _).alloc _)).trans hph0).trans hph1).trans hph2).trans hph3)) HB0m4.out)
        have hc202 := blk10 (Ext.block (h25.trans ((((((Ext.refl _).drew.trans ((Ext.refl _).alloc _)).trans hph0).trans hph1).trans hph2).trans hph3)) HB1m4.out)
        have hc203 := blk12 (Ext.block (h25.trans ((((((Ext.refl _).drew.trans ((Ext.refl _).alloc _)).trans hph0).trans hph1).trans hph2).trans hph3)) spHBm4.out)
        have hc204 := blk2 (Ext.block (h25.trans ((((((Ext.refl _).drew.trans ((Ext.refl _).alloc _)).trans hph0).trans hph1).trans hph2).trans hph3)) HB6m4.out)
        have hc205 := blk10 (Ext.block (h25.trans ((((((Ext.refl _).drew.trans ((Ext.refl _).alloc _)).trans hph0).trans hph1).trans hph2).trans hph3)) HB9m4.out)
        have hc206 := blk12 (Ext.block (h25.trans ((((((Ext.refl _).drew.trans ((Ext.refl _).alloc _)).trans hph0).trans hph1).trans hph2).trans hph3)) HB11m4.out)
        go_wp2_with fail
        refine HK.out _ _ hph3 ?_
        clear HK K
        have hphbs := Ext.block (((hph0.trans hph1).trans hph2).trans hph3) hpHBA.out
        have hpcs := blk12 hphbs
        have hpf0 := fr_of hphbs 0
        have hpf1 := fr_of hphbs 1
        have hpf2 := fr_of hphbs 2
        have hpf3 := fr_of hphbs 3
        have hpf4 := fr_of hphbs 4
        have hpf5 := fr_of hphbs 5
        have hpf6 := fr_of hphbs 6
        have hpf7 := fr_of hphbs 7
        have hpf8 := fr_of hphbs 8
        have hpf9 := fr_of hphbs 9
        have hpf10 := fr_of hphbs 10
        have hpf11 := fr_of hphbs 11
        have hpHBS := Lib.hid hphbs; clear hphbs
        refine badStep (by kernel_rfl) (fun K HK => ?_)
        simp only [pick, List.filterMap_cons, List.filterMap_nil, List.getElem?_toArray, List.getElem?_cons_zero, List.getElem?_cons_succ]
        go_wp2_with fail
        refine HK.out _ _ ?_
        clear HK K
        refine doneStep (by kernel_rfl) ?_
        go_wp2_with fail
        go_meet
        obtain ⟨wq, hwq, hbq, hcq, hsq⟩ := vd_set hpHBS.out (.int .i64 (traverse a0 a1 a2 a3).code) ((.slice hpp0 ((traverse a0 a1 a2 a3).steps).length hpc0)) (.int .i64 (traverse a0 a1 a2 a3).pkt.kind) (.int .i64 (traverse a0 a1 a2 a3).pkt.src) (.int .i64 (traverse a0 a1 a2 a3).pkt.dst) ((.slice hpp1 ((traverse a0 a1 a2 a3).pkt.path.parts).length hpc1)) (.int .i64 (traverse a0 a1 a2 a3).pkt.pi) (.int .i64 (traverse a0 a1 a2 a3).pkt.hi) (.int .i64 (traverse a0 a1 a2 a3).pkt.beta) (.int .i64 (traverse a0 a1 a2 a3).pkt.rid) (.int .i64 (traverse a0 a1 a2 a3).pkt.seq) ((.slice hpp2 ((traverse a0 a1 a2 a3).pkt.pay).length hpc2))
        rw [← hwq]
        exact ⟨_, _, _, _, rfl, hbq, (Ext.refl _).drew.size, Trc.own_mono (Trc.own_kept (Trc.own_ext hpoo (Ext.refl _)) hcq (fun b hb e => absurd hb.1 (by rw [e]; exact Nat.not_le.2 (Nat.lt_of_lt_of_le (blk_lt hpHBA.out) ((hph0.trans hph1).trans hph2).size)))) (fun b hb => ⟨Nat.le_trans (((((Ext.refl _).drew.trans ((Ext.refl _).alloc _)).trans hph0).trans hph1).trans hph2).size hb.1, by rw [hsq]; exact Nat.lt_of_lt_of_le hb.2 (Ext.refl _).size⟩), ((((((Ext.refl _).drew.trans ((Ext.refl _).alloc _)).trans hph0).trans hph1).trans hph2).trans hph3).chg1 hcq (Ext.refl _).drew.size⟩
    case rest =>
      obtain ⟨hpg, hpu0, hpu1, hpu2, rfl, hphb, hphg, hpoo, hphx⟩ := hcut
      obtain ⟨w26, hwn⟩ : ∃ wA : World, wA = wc := ⟨_, rfl⟩
      subst hwn
      have hpHB := Lib.hid hphb; clear hphb
      obtain ⟨hpp0, hpc0, rfl, hpl0⟩ := (Trc.own_rd0 hpoo).shape; clear hpl0
      obtain ⟨hpp1, hpc1, rfl, hpl1⟩ := (Trc.own_rd1 hpoo).shape; clear hpl1
      obtain ⟨hpp2, hpc2, rfl, hpl2⟩ := (Trc.own_rd2 hpoo).shape; clear hpl2
      have hc207 := blk2 (Ext.block (h25.trans hphx) HB0m4.out)
      have hc208 := blk10 (Ext.block (h25.trans hphx) HB1m4.out)
      have hc209 := blk12 (Ext.block (h25.trans hphx) spHBm4.out)
      have hc210 := blk2 (Ext.block (h25.trans hphx) HB6m4.out)
      have hc211 := blk10 (Ext.block (h25.trans hphx) HB9m4.out)
      have hc212 := blk12 (Ext.block (h25.trans hphx) HB11m4.out)
      have hc213 := blk12 hpHB.out
      go_wp2_with fail
      refine (l_eqTrace (traverse a0 a1 a2 a3) (traverse a0 a1 a2 a3) (.slice hpp0 ((traverse a0 a1 a2 a3).steps).length hpc0) (.slice hpp1 ((traverse a0 a1 a2 a3).pkt.path.parts).length hpc1) (.slice hpp2 ((traverse a0 a1 a2 a3).pkt.pay).length hpc2) (.slice spp0 ((traverse a0 a1 a2 a3).steps).length spc0) (.slice spp1 ((traverse a0 a1 a2 a3).pkt.path.parts).length spc1) (.slice spp2 ((traverse a0 a1 a2 a3).pkt.pay).length spc2) _ (Trc.own_rd0 hpoo) (Trc.own_rd1 hpoo) (Trc.own_rd2 hpoo) ((Trc.own_rd0 spoo_m4).ext (h25.trans hphx)) ((Trc.own_rd1 spoo_m4).ext (h25.trans hphx)) ((Trc.own_rd2 spoo_m4).ext (h25.trans hphx))).mono ?_
      rintro e w27 ⟨rfl, h27⟩
      rw [show decide ((traverse a0 a1 a2 a3) = (traverse a0 a1 a2 a3)) = true from decide_eq_true rfl]
      have hc214 := blk2 (Ext.block ((h25.trans hphx).trans h27) HB0m4.out)
      have hc215 := blk10 (Ext.block ((h25.trans hphx).trans h27) HB1m4.out)
      have hc216 := blk12 (Ext.block ((h25.trans hphx).trans h27) spHBm4.out)
      have hc217 := blk2 (Ext.block ((h25.trans hphx).trans h27) HB6m4.out)
      have hc218 := blk10 (Ext.block ((h25.trans hphx).trans h27) HB9m4.out)
      have hc219 := blk12 (Ext.block ((h25.trans hphx).trans h27) HB11m4.out)
      have hc220 := blk12 (Ext.block h27 hpHB.out)
      go_wp2_with fail
      refine (l_heldTrace ((traverse a0 a1 a2 a3)) (.slice gpp0 ((traverse a0 a1 a2 a3).steps).length gpc0) (.slice gpp1 ((traverse a0 a1 a2 a3).pkt.path.parts).length gpc1) (.slice gpp2 ((traverse a0 a1 a2 a3).pkt.pay).length gpc2) (1) _ ((Trc.own_rd0 mgo).ext ((h25.trans hphx).trans h27)) ((Trc.own_rd1 mgo).ext ((h25.trans hphx).trans h27)) ((Trc.own_rd2 mgo).ext ((h25.trans hphx).trans h27)) (by omega) (by omega)).mono ?_
      rintro e w28 ⟨rfl, h28⟩
      go_wp2_with fail
      go_ret
      exact ⟨rfl, (X4.trans (((h25.trans hphx).trans h27).trans h28))⟩


set_option maxRecDepth 100000 in
theorem FnExactTraverse_lifted (os : Os) (started : os.Started) (H : Type) (enc : TypeId × Value → H) :
    ReturnsInHanded {} Tryz.checked os 3 .any (Rows.fnExactTraverseSpec.pre6 enc Tryz.prog Tryz.f3 Rows.fnExactTraverseRow.domain false) (Rows.fnExactTraverseSpec.post enc Tryz.prog Tryz.f3 false true false false) := by
  refine returnsInHanded_of_change (C := Tryz.checked) own_knob started (by kernel_rfl) Tryz.func3
    (ChangeSpec.witness6 (enc := enc) (C := Tryz.checked) false ⟨#[], #[.agg #[.slice none 0 0, .slice none 0 0], .int .i64 0, .slice none 0 0, .agg #[.int .i64 0, .int .i64 0, .int .i64 0, .slice none 0 0, .int .i64 0, .int .i64 0, .int .i64 0, .int .i64 0, .int .i64 0, .slice none 0 0]], []⟩ 8 (by kernel_rfl) (by kernel_rfl) (by kernel_rfl) (by kernel_rfl)) ?_
  intro W base args ds gs before hval0 hW hcnd _
  have hval : ∀ (j : Nat) t v, Tryz.f3.params[j]? = some t → args[j]? = some v → Value.okWide Tryz.prog W .any base t v := hval0
  have hW' := hW
  obtain ⟨p, q, hA0, hV, rfl, hfz, hnd⟩ := hW
  have hA : DataW.TrodAll enc Tryz.prog W 0 (fun _ => true) true Tryz.f3.params.toList args.toList ds p := hA0
  rw [Tryz.params3] at hA hval
  obtain ⟨v0, vs0, d0, ds0, p0, q0, hargs, rfl, rfl, t0, r0⟩ := trodAll_cons hA
  obtain ⟨v1, vs1, d1, ds1, p1, q1, rfl, rfl, rfl, t1, r1⟩ := trodAll_cons r0
  obtain ⟨v2, vs2, d2, ds2, p2, q2, rfl, rfl, rfl, t2, r2⟩ := trodAll_cons r1
  obtain ⟨v3, vs3, d3, ds3, p3, q3, rfl, rfl, rfl, t3, r3⟩ := trodAll_cons r2
  obtain ⟨rfl, rfl, rfl⟩ := trodAll_nil r3
  obtain rfl : args = #[v0, v1, v2, v3] := by cases args; simp_all
  obtain ⟨c0, a0, rfl, b0, k0⟩ := arg_struct Tryz.underlying25 (hval 0 _ v0 rfl rfl) Topo.opens t0
  obtain ⟨v0h0, v0h1, rfl, r0h0, r0h1⟩ := b0
  obtain ⟨a1, rfl, k1⟩ := arg_int Tryz.underlying3 (hval 1 _ v1 rfl rfl) t1
  obtain ⟨a2, b2, k2⟩ := arg_slice Tryz.underlying26 (hval 2 _ v2 rfl rfl) opensInts t2
  obtain ⟨c3, a3, rfl, b3, k3⟩ := arg_struct Tryz.underlying32 (hval 3 _ v3 rfl rfl) Pkt.opens t3
  obtain ⟨v3h0, v3h1, rfl, r3h0, r3h1⟩ := b3
  refine (l_FnExactTraverse a0 v0h0 v0h1 a1 a2 v2 a3 v3h0 v3h1 W r0h0 r0h1 k0 k1 b2 k2 r3h0 r3h1 k3).mono fun e W' ⟨he, hx⟩ => ?_
  subst he
  refine ⟨_, rfl, post_law laid_out ?_ (by kernel_rfl) Tryz.underlying4 rfl ?_ hW' hx⟩
  · rw [Tryz.params3]
    intro t ht
    simp only [List.mem_cons, List.not_mem_nil, or_false] at ht
    rcases ht with rfl | rfl | rfl | rfl <;> exact ⟨by kernel_rfl, of_decide_eq_true (by kernel_rfl)⟩
  · rw [Tryz.params3]
    intro ds' h
    obtain ⟨x0, x1, x2, x3, rfl⟩ := len4 (by simpa using h)
    rfl

theorem FnExactTraverse_holds : Rows.FnExactTraverseSaid :=
  OpenClaim.holds_of_wide 3 Tryz.f3 rfl rfl rfl rfl rfl rfl rfl ⟨rfl, rfl, rfl, rfl, rfl⟩ rfl rfl rfl rfl rfl (by kernel_rfl) Tryz.func3 (by kernel_rfl)
    (of_decide_eq_true (by kernel_rfl)) (by unfold Func.isWrapper; first | (rw [if_pos (by decide +kernel)]; kernel_rfl) | (rw [if_neg (by decide +kernel)]; exact ⟨rfl, rfl⟩))
    (fun os started H enc _ => FnExactTraverse_lifted os started H enc)
#print axioms FnExactTraverse_holds

end Go.Proofs.YtiabfgebfjmplaaGreat
