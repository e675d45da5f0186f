/- The contract of Forward, the program. No condition but the bounds that it names. What forwarding keeps of a packet, and its codes: plain laws. No condition but the bounds that each theorem names. Contracts of the walk of a packet, program and reference. No condition but the bounds that each theorem names. Contracts of whether a path leads to its end, program and reference. No condition but the bounds that each theorem names. Slices of paths: how they read, what they own, and the contracts of the laws' helper functions over them. No condition but the bounds that each theorem names. Contracts of the paths that lead to their ends, program and reference. No condition but the bounds that each theorem names. The walk of the exact law over the paths that lead to their ends. No condition. The law FnExactWorkingPaths: for every input the call returns true, and each argument reads afterwards as it read before. No condition. -/
import Derived.Test.YtiabfgebfjmplaaGreatW28d
import Derived.Test.YtiabfgebfjmplaaGreatW05t
import Derived.Test.YtiabfgebfjmplaaGreatTyTrc
import Derived.Test.YtiabfgebfjmplaaGreatW26
import Derived.Test.YtiabfgebfjmplaaGreatTyPartM
import Derived.Deep.LoopGhost
import Derived.Test.YtiabfgebfjmplaaGreatTyTopoM
namespace Go.Proofs.YtiabfgebfjmplaaGreat
open Go.ChangeShapes Go.WideShapes Go.ChangeAt Go.RowKit Go.Deep

set_option maxRecDepth 100000 in
set_option maxHeartbeats 16000000 in
theorem i_Forward (t : Topo) (va vk : Value) (r now dead inn : Int) (x : Pkt) (v0 v1 : Value) (w : World) (ha : RdS ASd.rep w va t.ases) (hk : RdS Lnk.rep w vk t.links) (r0 : RdS Part.rep w v0 x.path.parts) (r1 : RdS Rep.byte w v1 x.pay) (hl : x.size ≤ 1048576) :
    Calls Tryz.prog 29 #[.agg #[va, vk], .int .i64 r, .int .i64 now, .int .i64 dead, .int .i64 inn, .agg #[.int .i64 x.kind, .int .i64 x.src, .int .i64 x.dst, v0, .int .i64 x.pi, .int .i64 x.hi, .int .i64 x.beta, .int .i64 x.rid, .int .i64 x.seq, v1]] w fun e w' => ∃ u0 u1, e = .returned (.agg #[.int .i64 (forward t r now dead inn x).code, .int .i64 (forward t r now dead inn x).eg, .int .i64 (forward t r now dead inn x).pkt.kind, .int .i64 (forward t r now dead inn x).pkt.src, .int .i64 (forward t r now dead inn x).pkt.dst, u0, .int .i64 (forward t r now dead inn x).pkt.pi, .int .i64 (forward t r now dead inn x).pkt.hi, .int .i64 (forward t r now dead inn x).pkt.beta, .int .i64 (forward t r now dead inn x).pkt.rid, .int .i64 (forward t r now dead inn x).pkt.seq, u1]) ∧ Pkt.own (rng w.heap.size w'.heap.size) w' u0 u1 (forward t r now dead inn x).pkt ∧ Ext w w' := by
  obtain ⟨o, cap, rfl, hsm⟩ := r0.shape
  obtain ⟨oy, cy, rfl, hsy⟩ := r1.shape
  have hx0 := ext3 w (.cells #[va, vk] 47) (.cells #[.int .i64 x.kind, .int .i64 x.src, .int .i64 x.dst, .slice o x.path.parts.length cap, .int .i64 x.pi, .int .i64 x.hi, .int .i64 x.beta, .int .i64 x.rid, .int .i64 x.seq, .slice oy x.pay.length cy] 40) (.cells #[.int .i64 0, .int .i64 0, .int .i64 0, .int .i64 0, .int .i64 0, .slice none 0 0, .int .i64 0, .int .i64 0, .int .i64 0, .int .i64 0, .int .i64 0, .slice none 0 0] 66)
  have HB0 := Lib.hid (al3 w (.cells #[va, vk] 47) (.cells #[.int .i64 x.kind, .int .i64 x.src, .int .i64 x.dst, .slice o x.path.parts.length cap, .int .i64 x.pi, .int .i64 x.hi, .int .i64 x.beta, .int .i64 x.rid, .int .i64 x.seq, .slice oy x.pay.length cy] 40) (.cells #[.int .i64 0, .int .i64 0, .int .i64 0, .int .i64 0, .int .i64 0, .slice none 0 0, .int .i64 0, .int .i64 0, .int .i64 0, .int .i64 0, .int .i64 0, .slice none 0 0] 66))
  go_enter Tryz.func29, Tryz.ntmps29
  have cf1 := blk2 HB0.out.1
  have cf2 := blk10 HB0.out.2.1
  have cf3 := blk12 HB0.out.2.2
  go_wp2_with fail
  refine (i_decide t _ _ r now dead inn x _ _ _ (ha.ext hx0) (hk.ext hx0) (r0.ext hx0) (r1.ext hx0) hl).mono ?_
  rintro e w1 ⟨u0, u1, out, rfl, oo, hz1⟩
  generalize hv : (forward t r now dead inn x) = v at *
  have HV := Lib.hid hv; clear hv
  obtain ⟨o1, c1, rfl, _⟩ := (Pkt.own_rd0 oo).shape
  obtain ⟨o2, c2, rfl, _⟩ := (Pkt.own_rd1 oo).shape
  have hs1 : w.heap.size + 1 + 1 + 1 ≤ w1.heap.size := by simpa using hz1.size
  have OO := Lib.hid oo; clear oo
  try clear cf1
  try clear cf2
  try clear cf3
  have cf4 := blk2 (Ext.block hz1 HB0.out.1)
  have cf5 := blk10 (Ext.block hz1 HB0.out.2.1)
  have cf6 := blk12 (Ext.block hz1 HB0.out.2.2)
  have hx1 : Ext w1 (w1.alloc (.cells #[.int .i64 v.code, .int .i64 v.eg, .int .i64 v.pkt.kind, .int .i64 v.pkt.src, .int .i64 v.pkt.dst, (.slice o1 v.pkt.path.parts.length c1), .int .i64 v.pkt.pi, .int .i64 v.pkt.hi, .int .i64 v.pkt.beta, .int .i64 v.pkt.rid, .int .i64 v.pkt.seq, (.slice o2 v.pkt.pay.length c2)] 66)) := (Ext.refl _).alloc _
  have HB1 := Lib.hid (blk_new w1 (.cells #[.int .i64 v.code, .int .i64 v.eg, .int .i64 v.pkt.kind, .int .i64 v.pkt.src, .int .i64 v.pkt.dst, (.slice o1 v.pkt.path.parts.length c1), .int .i64 v.pkt.pi, .int .i64 v.pkt.hi, .int .i64 v.pkt.beta, .int .i64 v.pkt.rid, .int .i64 v.pkt.seq, (.slice o2 v.pkt.pay.length c2)] 66))
  have hsz := hx1.size
  have hso : w1.heap.size < (w1.alloc (.cells #[.int .i64 v.code, .int .i64 v.eg, .int .i64 v.pkt.kind, .int .i64 v.pkt.src, .int .i64 v.pkt.dst, (.slice o1 v.pkt.path.parts.length c1), .int .i64 v.pkt.pi, .int .i64 v.pkt.hi, .int .i64 v.pkt.beta, .int .i64 v.pkt.rid, .int .i64 v.pkt.seq, (.slice o2 v.pkt.pay.length c2)] 66)).heap.size := blk_lt HB1.out
  have hR := Ext.block (hz1.trans hx1) HB0.out.2.2
  obtain ⟨wc, hwc, hrc, hcc, hsc⟩ := vd_set hR (.int .i64 v.code) (.int .i64 v.eg) (.int .i64 v.pkt.kind) (.int .i64 v.pkt.src) (.int .i64 v.pkt.dst) ((.slice o1 v.pkt.path.parts.length c1)) (.int .i64 v.pkt.pi) (.int .i64 v.pkt.hi) (.int .i64 v.pkt.beta) (.int .i64 v.pkt.rid) (.int .i64 v.pkt.seq) ((.slice o2 v.pkt.pay.length c2))
  have HOW := Lib.hid (Pkt.own_kept (Pkt.own_ext OO.out hx1) hcc (fun b hb e => by have h1 := hb.1; have h2 := hb.2; simp at h1; omega))
  have HXX := Lib.hid (((hx0.trans hz1).trans hx1).chg1 hcc (by omega))
  have HWC := Lib.hid hwc
  have HRC := Lib.hid hrc
  have hsz2 : (w1.alloc (.cells #[.int .i64 v.code, .int .i64 v.eg, .int .i64 v.pkt.kind, .int .i64 v.pkt.src, .int .i64 v.pkt.dst, (.slice o1 v.pkt.path.parts.length c1), .int .i64 v.pkt.pi, .int .i64 v.pkt.hi, .int .i64 v.pkt.beta, .int .i64 v.pkt.rid, .int .i64 v.pkt.seq, (.slice o2 v.pkt.pay.length c2)] 66)).heap.size = wc.heap.size := by rw [hsc]
  have hRF := fun o => fr_of hR o
  have gr0 := hRF 0
  have gr1 := hRF 1
  have gr2 := hRF 2
  have gr3 := hRF 3
  have gr4 := hRF 4
  have gr5 := hRF 5
  have gr6 := hRF 6
  have gr7 := hRF 7
  have gr8 := hRF 8
  have gr9 := hRF 9
  have gr10 := hRF 10
  have gr11 := hRF 11
  clear hRF hR  hwc hrc hcc hsc
  have cf7 := blk2 (Ext.block (hz1.trans hx1) HB0.out.1)
  have cf8 := blk10 (Ext.block (hz1.trans hx1) HB0.out.2.1)
  have cf9 := blk12 (Ext.block (hz1.trans hx1) HB0.out.2.2)
  have cf10 := blk12 HB1.out
  go_wp2_with fail
  rw [← HWC.out]
  clear gr0 gr1 gr2 gr3 gr4 gr5 gr6 gr7 gr8 gr9 gr10 gr11 cf7 cf8 cf9 cf10
  have cc := blk12 HRC.out
  refine bodyPost_ret (v := .agg #[.int .i64 v.code, .int .i64 v.eg, .int .i64 v.pkt.kind, .int .i64 v.pkt.src, .int .i64 v.pkt.dst, (.slice o1 v.pkt.path.parts.length c1), .int .i64 v.pkt.pi, .int .i64 v.pkt.hi, .int .i64 v.pkt.beta, .int .i64 v.pkt.rid, .int .i64 v.pkt.seq, (.slice o2 v.pkt.pay.length c2)]) (by simp [results, Tryz.results29, go_sem, cc]) rfl ?_
  rw [HV.out]
  exact ⟨_, _, rfl, Pkt.own_mono HOW.out (fun b hb => ⟨by have h1 := hb.1; simp at h1; omega, by have h2 := hb.2; omega⟩), HXX.out⟩


theorem fw_adv_pay (x : Pkt) : (advance x).pay = x.pay := by unfold advance; split; rfl; split <;> rfl
theorem fw_ver_pay (t : Topo) (x : Pkt) : (verCur t x).pay = x.pay := by unfold verCur; split <;> rfl
theorem fw_chkAll (t : Topo) (now : Int) : ∀ (f : Nat) (x : Pkt), (chkAll t now f x).2.path = x.path ∧ (chkAll t now f x).2.pay = x.pay
  | 0, x => ⟨verCur_path t x, fw_ver_pay t x⟩
  | f + 1, x => by
    unfold chkAll
    split
    · have h := fw_chkAll t now f (advance (verCur t x))
      rw [h.1, h.2, adv_path, fw_adv_pay]; exact ⟨verCur_path t x, fw_ver_pay t x⟩
    · exact ⟨verCur_path t x, fw_ver_pay t x⟩
theorem fw_pp (t : Topo) (r now dead inn : Int) (x : Pkt) : (forward t r now dead inn x).pkt.path = x.path ∧ (forward t r now dead inn x).pkt.pay = x.pay := by
  have h := fw_chkAll t now x.path.parts.length x
  unfold forward
  simp only
  repeat' split
  all_goals first | exact ⟨rfl, rfl⟩ | exact h | exact ⟨(adv_path _).trans h.1, (fw_adv_pay _).trans h.2⟩
theorem fw_size (t : Topo) (r now dead inn : Int) (x : Pkt) : (forward t r now dead inn x).pkt.size = x.size := by
  have h := fw_pp t r now dead inn x
  unfold Pkt.size; rw [h.1, h.2]
theorem fw_chk_nn (t : Topo) (now : Int) (x : Pkt) : 0 ≤ chkCode t now x := by unfold chkCode; split; split; all_goals omega
theorem fw_all_nn (t : Topo) (now : Int) : ∀ (f : Nat) (x : Pkt), 0 ≤ (chkAll t now f x).1
  | 0, x => fw_chk_nn t now x
  | f + 1, x => by
    unfold chkAll
    split
    · exact fw_all_nn t now f _
    · exact fw_chk_nn t now x
theorem fw_nn (t : Topo) (r now dead inn : Int) (x : Pkt) : 0 ≤ (forward t r now dead inn x).code := by
  have h := fw_all_nn t now x.path.parts.length x
  unfold forward
  simp only
  repeat' split
  all_goals first | exact h | (dsimp only; omega)

def trav (t : Topo) (now : Int) (dead : List Int) : Nat → Int → Int → Pkt → List Step → Trc
  | 0, _, _, x, l => ⟨0, l, x⟩
  | f + 1, r, inn, x, l =>
    if (forward t r now (failedIfs t dead r) inn x).code = 0 then trav t now dead f (remEnd t r (forward t r now (failedIfs t dead r) inn x).eg).1 (remEnd t r (forward t r now (failedIfs t dead r) inn x).eg).2 (forward t r now (failedIfs t dead r) inn x).pkt (l ++ [⟨r, inn, (forward t r now (failedIfs t dead r) inn x).eg⟩])
    else if (forward t r now (failedIfs t dead r) inn x).code = 1 then ⟨1, l ++ [⟨r, inn, (forward t r now (failedIfs t dead r) inn x).eg⟩], (forward t r now (failedIfs t dead r) inn x).pkt⟩
    else ⟨(forward t r now (failedIfs t dead r) inn x).code, l, (forward t r now (failedIfs t dead r) inn x).pkt⟩
def traverse (t : Topo) (now : Int) (dead : List Int) (x : Pkt) : Trc := trav t now dead 30 x.src 0 x []
theorem trav_go {t : Topo} {now : Int} {dead : List Int} {f : Nat} {r inn eg : Int} {x z : Pkt} {l : List Step} (hv : forward t r now (failedIfs t dead r) inn x = ⟨0, eg, z⟩) :
    trav t now dead (f + 1) r inn x l = trav t now dead f (remEnd t r eg).1 (remEnd t r eg).2 z (l ++ [⟨r, inn, eg⟩]) := by simp [trav, hv]
theorem trav_del {t : Topo} {now : Int} {dead : List Int} {f : Nat} {r inn eg : Int} {x z : Pkt} {l : List Step} (hv : forward t r now (failedIfs t dead r) inn x = ⟨1, eg, z⟩) :
    trav t now dead (f + 1) r inn x l = ⟨1, l ++ [⟨r, inn, eg⟩], z⟩ := by simp [trav, hv]
theorem trav_bad {t : Topo} {now : Int} {dead : List Int} {f : Nat} {r inn cd eg : Int} {x z : Pkt} {l : List Step} (hv : forward t r now (failedIfs t dead r) inn x = ⟨cd, eg, z⟩) (h0 : ¬ cd = 0) (h1 : ¬ cd = 1) :
    trav t now dead (f + 1) r inn x l = ⟨cd, l, z⟩ := by simp [trav, hv, h0, h1]
/-- The block of the trace under way. -/
def TSt (lo lo1 g : Nat) (code : Int) (l : List Step) (x : Pkt) (w : World) : Prop :=
  ∃ (os : Option Addr) (cs : Nat) (o0 : Option Addr) (n0 c0 : Nat) (o1 : Option Addr) (n1 c1 : Nat) (S : Nat → Prop), w.heap[g]? = some (.cells #[.int .i64 code, .slice os l.length cs, .int .i64 x.kind, .int .i64 x.src, .int .i64 x.dst, .slice o0 n0 c0, .int .i64 x.pi, .int .i64 x.hi, .int .i64 x.beta, .int .i64 x.rid, .int .i64 x.seq, .slice o1 n1 c1] 42) ∧
    OwnF Step.f 3 lo1 85 w (.slice os l.length cs) l ∧ Pkt.own S w (.slice o0 n0 c0) (.slice o1 n1 c1) x ∧ ∀ b, S b → lo ≤ b ∧ b < w.heap.size ∧ b ≠ g ∧ (Value.slice os l.length cs).ownBlock ≠ some b
/-- The block of a verdict. -/
def VSt (lo g : Nat) (cd eg : Int) (x : Pkt) (w : World) : Prop :=
  ∃ (o0 : Option Addr) (n0 c0 : Nat) (o1 : Option Addr) (n1 c1 : Nat) (S : Nat → Prop), w.heap[g]? = some (.cells #[.int .i64 cd, .int .i64 eg, .int .i64 x.kind, .int .i64 x.src, .int .i64 x.dst, .slice o0 n0 c0, .int .i64 x.pi, .int .i64 x.hi, .int .i64 x.beta, .int .i64 x.rid, .int .i64 x.seq, .slice o1 n1 c1] 66) ∧ Pkt.own S w (.slice o0 n0 c0) (.slice o1 n1 c1) x ∧ ∀ b, S b → lo ≤ b ∧ b < w.heap.size ∧ b ≠ g
theorem Trc.own_of {lo : Nat} {S : Nat → Prop} {w : World} {h0 h1 h2 : Value} {cd : Int} {l : List Step} {z : Pkt} {lo1 : Nat} (a : OwnF Step.f 3 lo1 85 w h0 l) (b : Pkt.own S w h1 h2 z) (hlo : lo ≤ lo1) (hS : ∀ b, S b → lo ≤ b ∧ b < w.heap.size ∧ h0.ownBlock ≠ some b) : Trc.own (rng lo w.heap.size) w h0 h1 h2 ⟨cd, l, z⟩ :=
  ⟨fun b => h0.ownBlock = some b, S, ⟨a.to0, fun _ h => h⟩, b, fun b hb => ⟨Nat.le_trans hlo (a.block b hb).1, (a.block b hb).2⟩, fun b hb => ⟨(hS b hb).1, (hS b hb).2.1⟩, fun b hb h2 => (hS b h2).2.2 hb⟩

/-- A code and a packet are stored in a trace's block. -/
theorem tr_set {w : World} {b : Nat} {x0 x1 x2 x3 x4 x5 x6 x7 x8 x9 x10 x11 : Value} {t : TypeId} (h : w.heap[b]? = some (.cells #[x0, x1, x2, x3, x4, x5, x6, x7, x8, x9, x10, x11] t (0, 0))) (y0 y2 y3 y4 y5 y6 y7 y8 y9 y10 y11 : Value) :
    ∃ w5, w5 = (((((((((((w.setCell ⟨b, 0, none⟩ y0).setCell ⟨b, 2, none⟩ y2).setCell ⟨b, 3, none⟩ y3).setCell ⟨b, 4, none⟩ y4).setCell ⟨b, 5, none⟩ y5).setCell ⟨b, 6, none⟩ y6).setCell ⟨b, 7, none⟩ y7).setCell ⟨b, 8, none⟩ y8).setCell ⟨b, 9, none⟩ y9).setCell ⟨b, 10, none⟩ y10).setCell ⟨b, 11, none⟩ y11) ∧ w5.heap[b]? = some (.cells #[y0, x1, y2, y3, y4, y5, y6, y7, y8, y9, y10, y11] t (0, 0)) ∧ Chg (fun i => i = b) w w5 ∧ w5.heap.size = w.heap.size := by
  refine ⟨_, rfl, by simpa using (blk_set (blk_set (blk_set (blk_set (blk_set (blk_set (blk_set (blk_set (blk_set (blk_set (blk_set h 0 y0) 2 y2) 3 y3) 4 y4) 5 y5) 6 y6) 7 y7) 8 y8) 9 y9) 10 y10) 11 y11), ?_, by simp⟩
  have q (o : Nat) (u : Value) {wq : World} (h : Chg (fun i => i = b) w wq) := Chg.setCell (p := ⟨b, o, none⟩) h rfl u
  exact q _ _ (q _ _ (q _ _ (q _ _ (q _ _ (q _ _ (q _ _ (q _ _ (q _ _ (q _ _ (q _ _ (Chg.refl _ w)))))))))))

set_option maxRecDepth 100000 in
set_option maxHeartbeats 40000000 in
theorem i_Traverse (t : Topo) (va vk : Value) (now : Int) (dead : List Int) (vd : Value) (x : Pkt) (v0 v1 : Value) (w : World) (ha : RdS ASd.rep w va t.ases) (hk : RdS Lnk.rep w vk t.links) (hd : RdS Rep.int w vd dead) (r0 : RdS Part.rep w v0 x.path.parts) (r1 : RdS Rep.byte w v1 x.pay) (ht : t.size ≤ 1048576) (hl : x.size ≤ 1048576) :
    Calls Tryz.prog 13 #[.agg #[va, vk], .int .i64 now, vd, .agg #[.int .i64 x.kind, .int .i64 x.src, .int .i64 x.dst, v0, .int .i64 x.pi, .int .i64 x.hi, .int .i64 x.beta, .int .i64 x.rid, .int .i64 x.seq, v1]] w fun e w' => ∃ u0 u1 u2, e = .returned (.agg #[.int .i64 (traverse t now dead x).code, u0, .int .i64 (traverse t now dead x).pkt.kind, .int .i64 (traverse t now dead x).pkt.src, .int .i64 (traverse t now dead x).pkt.dst, u1, .int .i64 (traverse t now dead x).pkt.pi, .int .i64 (traverse t now dead x).pkt.hi, .int .i64 (traverse t now dead x).pkt.beta, .int .i64 (traverse t now dead x).pkt.rid, .int .i64 (traverse t now dead x).pkt.seq, u2]) ∧ Trc.own (rng w.heap.size w'.heap.size) w' u0 u1 u2 (traverse t now dead x) ∧ Ext w w' := by
  obtain ⟨o, cap, rfl, hsm⟩ := r0.shape
  obtain ⟨oy, cy, rfl, hsy⟩ := r1.shape
  obtain ⟨od, cdd, rfl, _⟩ := hd.shape
  obtain ⟨E⟩ := elemStep
  have hx0 := ext3 w (.cells #[va, vk] 47) (.cells #[.int .i64 x.kind, .int .i64 x.src, .int .i64 x.dst, .slice o x.path.parts.length cap, .int .i64 x.pi, .int .i64 x.hi, .int .i64 x.beta, .int .i64 x.rid, .int .i64 x.seq, .slice oy x.pay.length cy] 40) (.cells #[.int .i64 0, .slice none 0 0, .int .i64 0, .int .i64 0, .int .i64 0, .slice none 0 0, .int .i64 0, .int .i64 0, .int .i64 0, .int .i64 0, .int .i64 0, .slice none 0 0] 42)
  have HB0 := Lib.hid (al3 w (.cells #[va, vk] 47) (.cells #[.int .i64 x.kind, .int .i64 x.src, .int .i64 x.dst, .slice o x.path.parts.length cap, .int .i64 x.pi, .int .i64 x.hi, .int .i64 x.beta, .int .i64 x.rid, .int .i64 x.seq, .slice oy x.pay.length cy] 40) (.cells #[.int .i64 0, .slice none 0 0, .int .i64 0, .int .i64 0, .int .i64 0, .slice none 0 0, .int .i64 0, .int .i64 0, .int .i64 0, .int .i64 0, .int .i64 0, .slice none 0 0] 42))
  go_enter Tryz.func13, Tryz.ntmps13
  have cf1 := blk2 HB0.out.1
  have cf2 := blk10 HB0.out.2.1
  have cf3 := blk12 HB0.out.2.2
  go_wp2_with fail
  refine (i_copyPacket x _ _ _ (r0.ext hx0) (r1.ext hx0) hl).mono ?_
  rintro e w1 ⟨u0, u1, rfl, ou, hz1⟩
  obtain ⟨p0, d0, rfl, _⟩ := (Pkt.own_rd0 ou).shape
  obtain ⟨p1, d1, rfl, _⟩ := (Pkt.own_rd1 ou).shape
  have hs1 : (w.heap.size + 1 + 1 + 1) ≤ w1.heap.size := by simpa using hz1.size
  obtain ⟨g, hgw⟩ : ∃ g : Nat, g = w1.heap.size := ⟨_, rfl⟩
  have hxc := (Ext.refl w1).alloc (.cells #[.int .i64 0, .slice none 0 0, .int .i64 x.kind, .int .i64 x.src, .int .i64 x.dst, .slice p0 x.path.parts.length d0, .int .i64 x.pi, .int .i64 x.hi, .int .i64 x.beta, .int .i64 x.rid, .int .i64 x.seq, .slice p1 x.pay.length d1] 42)
  have hge : w1.heap.size ≤ g := by rw [hgw]; exact Nat.le_refl _
  have HST0 : Hid (TSt (w.heap.size + 1 + 1 + 1) w1.heap.size g 0 [] x (w1.alloc (.cells #[.int .i64 0, .slice none 0 0, .int .i64 x.kind, .int .i64 x.src, .int .i64 x.dst, .slice p0 x.path.parts.length d0, .int .i64 x.pi, .int .i64 x.hi, .int .i64 x.beta, .int .i64 x.rid, .int .i64 x.seq, .slice p1 x.pay.length d1] 42))) := by
    rw [hgw]
    exact Lib.hid ⟨none, 0, _, _, _, _, _, _, _, blk_new _ _, OwnF.nil _ _ _ _ _, Pkt.own_ext ou ((Ext.refl _).alloc _), fun b hb => ⟨by have h1 := hb.1; simp at h1; omega, Nat.lt_of_lt_of_le hb.2 ((Ext.refl _).alloc _).size, (fun e => by rw [e] at hb; exact absurd hb.2 (Nat.lt_irrefl _)), by simp [Value.ownBlock]⟩⟩
  clear ou
  try clear cf1
  try clear cf2
  try clear cf3
  have cf4 := blk2 (Ext.block hz1 HB0.out.1)
  have cf5 := blk10 (Ext.block hz1 HB0.out.2.1)
  have cf6 := blk12 (Ext.block hz1 HB0.out.2.2)
  go_wp2_with fail
  rw [← hgw]
  clear hgw
  try clear cf4
  try clear cf5
  try clear cf6
  go_loopg [9, 10, 12] 30 (fun gk ar ai ak wr => ∃ (rv iv : Int) (k : Nat) (y : Pkt) (l : List Step), ar = .int .i64 rv ∧ ai = .int .i64 iv ∧ ak = .int .i64 k ∧ gk + k = 31 ∧ 1 ≤ k ∧ k ≤ 30 ∧ Hid (trav t now dead gk rv iv y l = (traverse t now dead x)) ∧ Hid (y.size = x.size) ∧ l.length ≤ k ∧ TSt (w.heap.size + 1 + 1 + 1) w1.heap.size g 0 l y wr ∧ Ext w1 wr)
  case atStart => exact ⟨x.src, 0, 1, x, [], rfl, rfl, rfl, rfl, by omega, by omega, Lib.hid rfl, Lib.hid rfl, Nat.zero_le _, HST0.out, hxc⟩
  case round =>
    clear HST0 hxc
    obtain ⟨rv, iv, k, y, l, rfl, rfl, rfl, hn0, hn1, hn2, HTR, HYS, hll, hst, hx⟩ := hrel
    obtain ⟨os, cs, o0, n0, c0, o1, n1, c1, S0, hg, hos, hown, hS⟩ := hst
    have HGB := Lib.hid hg; clear hg
    have hly : y.size ≤ 1048576 := by rw [HYS.out]; exact hl
    obtain ⟨f0, hf0⟩ : ∃ f0, gk = f0 + 1 := ⟨gk - 1, by omega⟩
    have HF := Lib.hid hf0; clear hf0
    have rz0 := Pkt.own_rd0 hown
    have rz1 := Pkt.own_rd1 hown
    obtain ⟨v, hv⟩ : ∃ v, forward t rv now (failedIfs t dead rv) iv y = v := ⟨_, rfl⟩
    obtain ⟨cd, eg, z⟩ := v
    have HV := Lib.hid hv
    have HCD : Hid ((forward t rv now (failedIfs t dead rv) iv y).code = cd) := Lib.hid (by rw [hv])
    have HEG : Hid ((forward t rv now (failedIfs t dead rv) iv y).eg = eg) := Lib.hid (by rw [hv])
    have HZ : Hid ((forward t rv now (failedIfs t dead rv) iv y).pkt = z) := Lib.hid (by rw [hv])
    have HZS : Hid (z.size = x.size) := Lib.hid (by rw [← HZ.out, fw_size]; exact HYS.out)
    have HNN : Hid (0 ≤ cd) := Lib.hid (by rw [← HCD.out]; exact fw_nn _ _ _ _ _ _)
    clear hv
    have cf7 := blk2 (Ext.block (hz1.trans hx) HB0.out.1)
    have cf8 := blk10 (Ext.block (hz1.trans hx) HB0.out.2.1)
    have cf9 := blk12 (Ext.block (hz1.trans hx) HB0.out.2.2)
    have cf10 := blk12 HGB.out
    go_upto_region 5 with (fail)
    go_cut [13] (fun v13 wx => ∃ gv : Nat, v13 = .pointer (some ⟨gv, 0, none⟩) ∧ VSt wr.heap.size gv cd eg z wx ∧ wr.heap.size ≤ gv ∧ Ext wr wx)
    case first =>
      refine planStep (.blk [0, 1, 2, 3, 4, 5, 7, 8, 9] (.two 6 11 (.two 10 11 (.one 11 (.one 12 .done)) (.one 10 (.one 12 .done))) (.one 6 (.one 10 (.one 12 .done))))) [12] (by kernel_rfl) (by kernel_rfl) ?_
      refine blkStep (fun K HK => ?_)
      simp only [pick, List.filterMap_cons, List.filterMap_nil, List.getElem?_toArray, List.getElem?_cons_zero, List.getElem?_cons_succ]
      go_wp2_with fail
      refine HK.out _ _ ?_
      clear HK K
      refine twoStep ?_ ?_
      · refine oneStep (fun K HK => ?_)
        simp only [pick, List.filterMap_cons, List.filterMap_nil, List.getElem?_toArray, List.getElem?_cons_zero, List.getElem?_cons_succ]
        go_wp2_with fail
        refine (i_FailedInterfaces t _ _ dead _ rv _ (ha.ext (((hx0.trans hz1).trans hx).trans (Ext.refl _).drew)) (hk.ext (((hx0.trans hz1).trans hx).trans (Ext.refl _).drew)) (hd.ext (((hx0.trans hz1).trans hx).trans (Ext.refl _).drew)) ht).mono ?_
        rintro e wk0 ⟨rfl, hk0⟩
        have hcc1 := blk2 (Ext.block ((hz1.trans hx).trans ((Ext.refl _).drew.trans hk0)) HB0.out.1)
        have hcc2 := blk10 (Ext.block ((hz1.trans hx).trans ((Ext.refl _).drew.trans hk0)) HB0.out.2.1)
        have hcc3 := blk12 (Ext.block ((hz1.trans hx).trans ((Ext.refl _).drew.trans hk0)) HB0.out.2.2)
        have hcc4 := blk12 (Ext.block ((Ext.refl _).trans ((Ext.refl _).drew.trans hk0)) HGB.out)
        go_wp2_with fail
        refine HK.out _ _ hk0 ?_
        clear HK K
        refine twoStep ?_ ?_
        · refine oneStep (fun K HK => ?_)
          simp only [pick, List.filterMap_cons, List.filterMap_nil, List.getElem?_toArray, List.getElem?_cons_zero, List.getElem?_cons_succ]
          go_wp2_with fail
          refine (i_Forward t _ _ rv now (failedIfs t dead rv) iv y _ _ _ (ha.ext (((hx0.trans hz1).trans hx).trans ((Ext.refl _).drew.trans hk0))) (hk.ext (((hx0.trans hz1).trans hx).trans ((Ext.refl _).drew.trans hk0))) (rz0.ext ((Ext.refl _).drew.trans hk0)) (rz1.ext ((Ext.refl _).drew.trans hk0)) hly).mono ?_
          rintro e wk1 ⟨u0, u1, rfl, ou, hk1⟩
          rw [HCD.out, HEG.out, HZ.out]
          rw [HZ.out] at ou
          obtain ⟨p0, d0, rfl, _⟩ := (Pkt.own_rd0 ou).shape
          obtain ⟨p1, d1, rfl, _⟩ := (Pkt.own_rd1 ou).shape
          have hcc5 := blk2 (Ext.block ((hz1.trans hx).trans (((Ext.refl _).drew.trans hk0).trans hk1)) HB0.out.1)
          have hcc6 := blk10 (Ext.block ((hz1.trans hx).trans (((Ext.refl _).drew.trans hk0).trans hk1)) HB0.out.2.1)
          have hcc7 := blk12 (Ext.block ((hz1.trans hx).trans (((Ext.refl _).drew.trans hk0).trans hk1)) HB0.out.2.2)
          have hcc8 := blk12 (Ext.block ((Ext.refl _).trans (((Ext.refl _).drew.trans hk0).trans hk1)) HGB.out)
          go_wp2_with fail
          refine HK.out _ _ hk1 ?_
          clear HK K
          refine oneStep (fun K HK => ?_)
          simp only [pick, List.filterMap_cons, List.filterMap_nil, List.getElem?_toArray, List.getElem?_cons_zero, List.getElem?_cons_succ]
          go_wp2_with fail
          refine HK.out _ _ ((Ext.refl _).alloc _) ?_
          clear HK K
          refine badStep (by kernel_rfl) (fun K HK => ?_)
          simp only [pick, List.filterMap_cons, List.filterMap_nil, List.getElem?_toArray, List.getElem?_cons_zero, List.getElem?_cons_succ]
          go_wp2_with fail
          refine HK.out _ _ ?_
          clear HK K
          refine doneStep (by kernel_rfl) ?_
          go_wp2_with fail
          go_meet
          exact ⟨_, rfl, ⟨p0, _, d0, p1, _, d1, _, blk_new _ _, Pkt.own_ext ou ((Ext.refl _).alloc _), fun b hb => ⟨Nat.le_trans ((Ext.refl _).drew.trans hk0).size hb.1, Nat.lt_of_lt_of_le hb.2 ((Ext.refl _).alloc _).size, fun e => by rw [e] at hb; exact absurd hb.2 (Nat.lt_irrefl _)⟩⟩, (((Ext.refl _).drew.trans hk0).trans hk1).size, (((Ext.refl _).drew.trans hk0).trans hk1).alloc _⟩
        · have hba := blk_new wk0 (.cells #[.int .i64 0, .int .i64 0, .int .i64 0, .int .i64 0, .int .i64 0, .slice none 0 0, .int .i64 0, .int .i64 0, .int .i64 0, .int .i64 0, .int .i64 0, .slice none 0 0] 66)
          have HBA := Lib.hid hba; clear hba
          refine oneStep (fun K HK => ?_)
          simp only [pick, List.filterMap_cons, List.filterMap_nil, List.getElem?_toArray, List.getElem?_cons_zero, List.getElem?_cons_succ]
          go_wp2_with fail
          refine HK.out _ _ ((Ext.refl _).alloc _) ?_
          clear HK K
          refine oneStep (fun K HK => ?_)
          simp only [pick, List.filterMap_cons, List.filterMap_nil, List.getElem?_toArray, List.getElem?_cons_zero, List.getElem?_cons_succ]
          go_wp2_with fail
          refine (i_Forward t _ _ rv now (failedIfs t dead rv) iv y _ _ _ (ha.ext (((hx0.trans hz1).trans hx).trans (((Ext.refl _).drew.trans hk0).trans ((Ext.refl _).alloc _)))) (hk.ext (((hx0.trans hz1).trans hx).trans (((Ext.refl _).drew.trans hk0).trans ((Ext.refl _).alloc _)))) (rz0.ext (((Ext.refl _).drew.trans hk0).trans ((Ext.refl _).alloc _))) (rz1.ext (((Ext.refl _).drew.trans hk0).trans ((Ext.refl _).alloc _))) hly).mono ?_
          rintro e wk1 ⟨u0, u1, rfl, ou, hk1⟩
          rw [HCD.out, HEG.out, HZ.out]
          rw [HZ.out] at ou
          obtain ⟨p0, d0, rfl, _⟩ := (Pkt.own_rd0 ou).shape
          obtain ⟨p1, d1, rfl, _⟩ := (Pkt.own_rd1 ou).shape
          have hcc9 := blk2 (Ext.block ((hz1.trans hx).trans ((((Ext.refl _).drew.trans hk0).trans ((Ext.refl _).alloc _)).trans hk1)) HB0.out.1)
          have hcc10 := blk10 (Ext.block ((hz1.trans hx).trans ((((Ext.refl _).drew.trans hk0).trans ((Ext.refl _).alloc _)).trans hk1)) HB0.out.2.1)
          have hcc11 := blk12 (Ext.block ((hz1.trans hx).trans ((((Ext.refl _).drew.trans hk0).trans ((Ext.refl _).alloc _)).trans hk1)) HB0.out.2.2)
          have hcc12 := blk12 (Ext.block ((Ext.refl _).trans ((((Ext.refl _).drew.trans hk0).trans ((Ext.refl _).alloc _)).trans hk1)) HGB.out)
          go_wp2_with fail
          refine HK.out _ _ hk1 ?_
          clear HK K
          have hbs := Ext.block hk1 HBA.out
          have hcs := blk12 hbs
          have hfs0 := fr_of hbs 0
          have hfs1 := fr_of hbs 1
          have hfs2 := fr_of hbs 2
          have hfs3 := fr_of hbs 3
          have hfs4 := fr_of hbs 4
          have hfs5 := fr_of hbs 5
          have hfs6 := fr_of hbs 6
          have hfs7 := fr_of hbs 7
          have hfs8 := fr_of hbs 8
          have hfs9 := fr_of hbs 9
          have hfs10 := fr_of hbs 10
          have hfs11 := fr_of hbs 11
          have HBS := Lib.hid hbs; clear hbs
          refine badStep (by kernel_rfl) (fun K HK => ?_)
          simp only [pick, List.filterMap_cons, List.filterMap_nil, List.getElem?_toArray, List.getElem?_cons_zero, List.getElem?_cons_succ]
          go_wp2_with fail
          refine HK.out _ _ ?_
          clear HK K
          refine doneStep (by kernel_rfl) ?_
          go_wp2_with fail
          go_meet
          obtain ⟨wq, hwq, hbq, hcq, hsq⟩ := vd_set HBS.out (.int .i64 cd) (.int .i64 eg) (.int .i64 z.kind) (.int .i64 z.src) (.int .i64 z.dst) ((.slice p0 z.path.parts.length d0)) (.int .i64 z.pi) (.int .i64 z.hi) (.int .i64 z.beta) (.int .i64 z.rid) (.int .i64 z.seq) ((.slice p1 z.pay.length d1))
          rw [← hwq]
          exact ⟨_, rfl, ⟨p0, _, d0, p1, _, d1, _, hbq, Pkt.own_kept (Pkt.own_ext ou (Ext.refl _)) hcq (fun b (hb : rng _ _ b) (e : b = _) => absurd hb.1 (by rw [e]; exact Nat.not_le.2 (Nat.lt_of_lt_of_le (blk_lt HBA.out) (Ext.refl _).size))), fun b hb => ⟨Nat.le_trans (((Ext.refl _).drew.trans hk0).trans ((Ext.refl _).alloc _)).size hb.1, by rw [hsq]; exact Nat.lt_of_lt_of_le hb.2 (Ext.refl _).size, (fun b (hb : rng _ _ b) (e : b = _) => absurd hb.1 (by rw [e]; exact Nat.not_le.2 (Nat.lt_of_lt_of_le (blk_lt HBA.out) (Ext.refl _).size))) b hb⟩⟩, ((Ext.refl _).drew.trans hk0).size, ((((Ext.refl _).drew.trans hk0).trans ((Ext.refl _).alloc _)).trans hk1).chg1 hcq ((Ext.refl _).drew.trans hk0).size⟩
      · have hba := blk_new wr (.cells #[.int .i64 0, .int .i64 0, .int .i64 0, .int .i64 0, .int .i64 0, .slice none 0 0, .int .i64 0, .int .i64 0, .int .i64 0, .int .i64 0, .int .i64 0, .slice none 0 0] 66)
        have HBA := Lib.hid hba; clear hba
        refine oneStep (fun K HK => ?_)
        simp only [pick, List.filterMap_cons, List.filterMap_nil, List.getElem?_toArray, List.getElem?_cons_zero, List.getElem?_cons_succ]
        go_wp2_with fail
        refine HK.out _ _ ((Ext.refl _).alloc _) ?_
        clear HK K
        refine oneStep (fun K HK => ?_)
        simp only [pick, List.filterMap_cons, List.filterMap_nil, List.getElem?_toArray, List.getElem?_cons_zero, List.getElem?_cons_succ]
        go_wp2_with fail
        refine (i_FailedInterfaces t _ _ dead _ rv _ (ha.ext (((hx0.trans hz1).trans hx).trans ((Ext.refl _).drew.trans ((Ext.refl _).alloc _)))) (hk.ext (((hx0.trans hz1).trans hx).trans ((Ext.refl _).drew.trans ((Ext.refl _).alloc _)))) (hd.ext (((hx0.trans hz1).trans hx).trans ((Ext.refl _).drew.trans ((Ext.refl _).alloc _)))) ht).mono ?_
        rintro e wk0 ⟨rfl, hk0⟩
        have hcc13 := blk2 (Ext.block ((hz1.trans hx).trans (((Ext.refl _).drew.trans ((Ext.refl _).alloc _)).trans hk0)) HB0.out.1)
        have hcc14 := blk10 (Ext.block ((hz1.trans hx).trans (((Ext.refl _).drew.trans ((Ext.refl _).alloc _)).trans hk0)) HB0.out.2.1)
        have hcc15 := blk12 (Ext.block ((hz1.trans hx).trans (((Ext.refl _).drew.trans ((Ext.refl _).alloc _)).trans hk0)) HB0.out.2.2)
        have hcc16 := blk12 (Ext.block ((Ext.refl _).trans (((Ext.refl _).drew.trans ((Ext.refl _).alloc _)).trans hk0)) HGB.out)
        go_wp2_with fail
        refine HK.out _ _ hk0 ?_
        clear HK K
        refine oneStep (fun K HK => ?_)
        simp only [pick, List.filterMap_cons, List.filterMap_nil, List.getElem?_toArray, List.getElem?_cons_zero, List.getElem?_cons_succ]
        go_wp2_with fail
        refine (i_Forward t _ _ rv now (failedIfs t dead rv) iv y _ _ _ (ha.ext (((hx0.trans hz1).trans hx).trans (((Ext.refl _).drew.trans ((Ext.refl _).alloc _)).trans hk0))) (hk.ext (((hx0.trans hz1).trans hx).trans (((Ext.refl _).drew.trans ((Ext.refl _).alloc _)).trans hk0))) (rz0.ext (((Ext.refl _).drew.trans ((Ext.refl _).alloc _)).trans hk0)) (rz1.ext (((Ext.refl _).drew.trans ((Ext.refl _).alloc _)).trans hk0)) hly).mono ?_
        rintro e wk1 ⟨u0, u1, rfl, ou, hk1⟩
        rw [HCD.out, HEG.out, HZ.out]
        rw [HZ.out] at ou
        obtain ⟨p0, d0, rfl, _⟩ := (Pkt.own_rd0 ou).shape
        obtain ⟨p1, d1, rfl, _⟩ := (Pkt.own_rd1 ou).shape
        have hcc17 := blk2 (Ext.block ((hz1.trans hx).trans ((((Ext.refl _).drew.trans ((Ext.refl _).alloc _)).trans hk0).trans hk1)) HB0.out.1)
        have hcc18 := blk10 (Ext.block ((hz1.trans hx).trans ((((Ext.refl _).drew.trans ((Ext.refl _).alloc _)).trans hk0).trans hk1)) HB0.out.2.1)
        have hcc19 := blk12 (Ext.block ((hz1.trans hx).trans ((((Ext.refl _).drew.trans ((Ext.refl _).alloc _)).trans hk0).trans hk1)) HB0.out.2.2)
        have hcc20 := blk12 (Ext.block ((Ext.refl _).trans ((((Ext.refl _).drew.trans ((Ext.refl _).alloc _)).trans hk0).trans hk1)) HGB.out)
        go_wp2_with fail
        refine HK.out _ _ hk1 ?_
        clear HK K
        have hbs := Ext.block (hk0.trans hk1) HBA.out
        have hcs := blk12 hbs
        have hfs0 := fr_of hbs 0
        have hfs1 := fr_of hbs 1
        have hfs2 := fr_of hbs 2
        have hfs3 := fr_of hbs 3
        have hfs4 := fr_of hbs 4
        have hfs5 := fr_of hbs 5
        have hfs6 := fr_of hbs 6
        have hfs7 := fr_of hbs 7
        have hfs8 := fr_of hbs 8
        have hfs9 := fr_of hbs 9
        have hfs10 := fr_of hbs 10
        have hfs11 := fr_of hbs 11
        have HBS := Lib.hid hbs; clear hbs
        refine badStep (by kernel_rfl) (fun K HK => ?_)
        simp only [pick, List.filterMap_cons, List.filterMap_nil, List.getElem?_toArray, List.getElem?_cons_zero, List.getElem?_cons_succ]
        go_wp2_with fail
        refine HK.out _ _ ?_
        clear HK K
        refine doneStep (by kernel_rfl) ?_
        go_wp2_with fail
        go_meet
        obtain ⟨wq, hwq, hbq, hcq, hsq⟩ := vd_set HBS.out (.int .i64 cd) (.int .i64 eg) (.int .i64 z.kind) (.int .i64 z.src) (.int .i64 z.dst) ((.slice p0 z.path.parts.length d0)) (.int .i64 z.pi) (.int .i64 z.hi) (.int .i64 z.beta) (.int .i64 z.rid) (.int .i64 z.seq) ((.slice p1 z.pay.length d1))
        rw [← hwq]
        exact ⟨_, rfl, ⟨p0, _, d0, p1, _, d1, _, hbq, Pkt.own_kept (Pkt.own_ext ou (Ext.refl _)) hcq (fun b (hb : rng _ _ b) (e : b = _) => absurd hb.1 (by rw [e]; exact Nat.not_le.2 (Nat.lt_of_lt_of_le (blk_lt HBA.out) hk0.size))), fun b hb => ⟨Nat.le_trans (((Ext.refl _).drew.trans ((Ext.refl _).alloc _)).trans hk0).size hb.1, by rw [hsq]; exact Nat.lt_of_lt_of_le hb.2 (Ext.refl _).size, (fun b (hb : rng _ _ b) (e : b = _) => absurd hb.1 (by rw [e]; exact Nat.not_le.2 (Nat.lt_of_lt_of_le (blk_lt HBA.out) hk0.size))) b hb⟩⟩, (Ext.refl _).drew.size, ((((Ext.refl _).drew.trans ((Ext.refl _).alloc _)).trans hk0).trans hk1).chg1 hcq (Ext.refl _).drew.size⟩
    case rest =>
      obtain ⟨gv, rfl, ⟨p0, m0, d0, p1, m1, d1, S1, hbv, hov, hSv⟩, hvge, hxv⟩ := hcut
      obtain ⟨wv, hwv⟩ : ∃ wv : World, wv = wc := ⟨_, rfl⟩
      subst hwv
      have hgl : g < wr.heap.size := blk_lt HGB.out
      have hne : gv ≠ g := by omega
      have HBV := Lib.hid hbv; clear hbv
      have hG := Ext.block hxv HGB.out
      obtain ⟨wt, hwt, hbt, hct, hszt⟩ := tr_set hG (.int .i64 cd) (.int .i64 z.kind) (.int .i64 z.src) (.int .i64 z.dst) ((.slice p0 m0 d0)) (.int .i64 z.pi) (.int .i64 z.hi) (.int .i64 z.beta) (.int .i64 z.rid) (.int .i64 z.seq) ((.slice p1 m1 d1))
      have HWT := Lib.hid hwt
      have HBT := Lib.hid hbt
      have HBW := Lib.hid (hct.other HBV.out hne)
      have hos2 := (hos.ext hxv).chg hct (fun kk hkk e => absurd hkk (by rw [e]; exact (hos.ext hxv).ne hG (by decide)))
      have how2 := Pkt.own_kept hov hct (fun b hb e => by have h1 := (hSv b hb).1; omega)
      have hxt := (hx.trans hxv).chg1 hct hge
      have hdis : ∀ b, S1 b → (Value.slice os l.length cs).ownBlock ≠ some b := fun b hb e => by have h1 := (hSv b hb).1; have h2 := (hos.block b e).2; omega
      have hSt : ∀ b, S1 b → (w.heap.size + 1 + 1 + 1) ≤ b ∧ b < wt.heap.size ∧ (Value.slice os l.length cs).ownBlock ≠ some b := fun b hb => ⟨by have h1 := (hSv b hb).1; omega, by have h1 := (hSv b hb).2.1; omega, hdis b hb⟩
      have hfg0 := fr_of hG 0
      have hfg2 := fr_of hG 2
      have hfg3 := fr_of hG 3
      have hfg4 := fr_of hG 4
      have hfg5 := fr_of hG 5
      have hfg6 := fr_of hG 6
      have hfg7 := fr_of hG 7
      have hfg8 := fr_of hG 8
      have hfg9 := fr_of hG 9
      have hfg10 := fr_of hG 10
      have hfg11 := fr_of hG 11
      clear hwt hbt hG hszt
      try clear cf7
      try clear cf8
      try clear cf9
      try clear cf10
      have cf11 := blk2 (Ext.block ((hz1.trans hx).trans hxv) HB0.out.1)
      have cf12 := blk10 (Ext.block ((hz1.trans hx).trans hxv) HB0.out.2.1)
      have cf13 := blk12 (Ext.block ((hz1.trans hx).trans hxv) HB0.out.2.2)
      have cf14 := blk12 (Ext.block hxv HGB.out)
      have cf15 := blk12 HBV.out
      go_upto_region 8 with (fail)
      rw [← HWT.out]
      clear hfg0 hfg2 hfg3 hfg4 hfg5 hfg6 hfg7 hfg8 hfg9 hfg10 hfg11
      clear cf11
      clear cf12
      clear cf13
      clear cf14
      clear cf15
      by_cases k0 : cd = 0
      · subst k0
        have cf16 := blk2 (Ext.block (hz1.trans hxt) HB0.out.1)
        have cf17 := blk10 (Ext.block (hz1.trans hxt) HB0.out.2.1)
        have cf18 := blk12 (Ext.block (hz1.trans hxt) HB0.out.2.2)
        have cf19 := blk12 HBT.out
        have cf20 := blk12 HBW.out
        go_wp2_with (at_builtin; go_loud (refine app1p E Step.flen rfl _ _ rfl (⟨rv, iv, eg⟩ : Step) (Step.one _) rfl (OwnF.ext hos2 ((Ext.refl _).alloc _)) rfl (by exact blk_list (Step.f (⟨rv, iv, eg⟩ : Step)) (blk_new wt _)) (by omega) (by unfold maxLen; omega) (by exact (hxt.alloc _).size) ?_))
        intro v' w' ho' hg' hat
        have hbt1 := own_ne (OwnF.ext hos2 ((Ext.refl _).alloc _)) (Ext.block ((Ext.refl _).alloc _) HBT.out) (by decide) hg'
        have hbw1 := own_ne (OwnF.ext hos2 ((Ext.refl _).alloc _)) (Ext.block ((Ext.refl _).alloc _) HBW.out) (by decide) hg'
        have hx1 := Ext.app (hxt.alloc _) hg' hos2 (Nat.le_refl _)
        have how3 := Pkt.own_kept (Pkt.own_ext how2 ((Ext.refl _).alloc _)) (Chg.ofGrown (S := fun b => (Value.slice os l.length cs).ownBlock = some b) hg' (fun _ h => h)) (fun b hb e => hdis b hb e)
        have hsz3 := hg'.size
        simp only [nblk_alloc] at hsz3
        have hdis3 : ∀ b, S1 b → v'.ownBlock ≠ some b := by
          intro b hb e
          rcases hat with h | h
          · exact hdis b hb (h ▸ e)
          · rw [h] at e
            have h1 := (hSt b hb).2.1
            simp only [Option.some.injEq] at e
            omega
        obtain ⟨on, cn, hve, _⟩ := (OwnF.rd (hf := Step.flen) ho').shape
        rw [show (l ++ [(⟨rv, iv, eg⟩ : Step)]).length = l.length + 1 from by simp] at hve
        subst hve
        clear hat hg'
        obtain ⟨wq, hwq, hbq, hcq, hsq⟩ := cell_set hbt1 1 (.slice on (l.length + 1) cn)
        simp only [List.setIfInBounds_toArray, List.set_cons_succ, List.set_cons_zero] at hbq
        have HWQ := Lib.hid hwq
        have HBQ := Lib.hid hbq
        have HBR := Lib.hid (hcq.other hbw1 hne)
        have hos3 := ho'.chg hcq (fun kk hkk e => absurd hkk (by rw [e]; exact ho'.ne hbt1 (by decide)))
        have how4 := Pkt.own_kept how3 hcq (fun b hb e => by have h1 := (hSv b hb).1; omega)
        have hxq := hx1.chg1 hcq hge
        have hSq : ∀ b, S1 b → (w.heap.size + 1 + 1 + 1) ≤ b ∧ b < wq.heap.size ∧ (Value.slice on (l.length + 1) cn).ownBlock ≠ some b := fun b hb => ⟨(hSt b hb).1, by have h1 := (hSt b hb).2.1; omega, hdis3 b hb⟩
        have fg1 := fr_of hbt1 1
        have ct1 := blk12 hbt1
        have ct2 := blk12 hbw1
        clear hbt1 hbw1 hwq hbq how3 ho' hx1 hsq hsz3
        go_upto_region 11 with (fail)
        rw [← HWQ.out]
        clear fg1 ct1 ct2
        try clear cf16
        try clear cf17
        try clear cf18
        try clear cf19
        try clear cf20
        by_cases k3 : k = 30
        · subst k3
          have HE : Hid ((traverse t now dead x) = ⟨0, (l ++ [(⟨rv, iv, eg⟩ : Step)]), z⟩) := Lib.hid (by
            rw [← HTR.out, HF.out, trav_go HV.out]
            have h0 : f0 = 0 := by have := HF.out; omega
            subst h0; rfl)
          have OT := Lib.hid (Trc.own_of (cd := 0) (lo := (w.heap.size + 1 + 1 + 1)) hos3 how4 hs1 hSq)
          have hR := Ext.block (hz1.trans hxq) HB0.out.2.2
          obtain ⟨wc, hwc, hrc, hcc, hsc⟩ := vd_set hR (.int .i64 0) ((.slice on (l.length + 1) cn)) (.int .i64 z.kind) (.int .i64 z.src) (.int .i64 z.dst) ((.slice p0 m0 d0)) (.int .i64 z.pi) (.int .i64 z.hi) (.int .i64 z.beta) (.int .i64 z.rid) (.int .i64 z.seq) ((.slice p1 m1 d1))
          have HOW := Lib.hid (Trc.own_kept OT.out hcc (fun b hb e => by have h1 := hb.1; omega))
          have HXX := Lib.hid (((hx0.trans hz1).trans hxq).chg1 hcc (by omega))
          have HWC := Lib.hid hwc
          have HRC := Lib.hid hrc
          have hsz2 : wq.heap.size = wc.heap.size := by rw [hsc]
          have hRF := fun o => fr_of hR o
          have gr0 := hRF 0
          have gr1 := hRF 1
          have gr2 := hRF 2
          have gr3 := hRF 3
          have gr4 := hRF 4
          have gr5 := hRF 5
          have gr6 := hRF 6
          have gr7 := hRF 7
          have gr8 := hRF 8
          have gr9 := hRF 9
          have gr10 := hRF 10
          have gr11 := hRF 11
          clear hRF hR  hwc hrc hcc hsc
          have cf21 := blk2 (Ext.block (hz1.trans hxq) HB0.out.1)
          have cf22 := blk10 (Ext.block (hz1.trans hxq) HB0.out.2.1)
          have cf23 := blk12 (Ext.block (hz1.trans hxq) HB0.out.2.2)
          have cf24 := blk12 HBQ.out
          have cf25 := blk12 HBR.out
          go_wp2_with fail
          rw [← HWC.out]
          clear gr0 gr1 gr2 gr3 gr4 gr5 gr6 gr7 gr8 gr9 gr10 gr11 cf21 cf22 cf23 cf24 cf25
          have cc := blk12 HRC.out
          refine bodyPost_ret (v := .agg #[.int .i64 0, (.slice on (l.length + 1) cn), .int .i64 z.kind, .int .i64 z.src, .int .i64 z.dst, (.slice p0 m0 d0), .int .i64 z.pi, .int .i64 z.hi, .int .i64 z.beta, .int .i64 z.rid, .int .i64 z.seq, (.slice p1 m1 d1)]) (by simp [results, Tryz.results13, go_sem, cc]) rfl ?_
          rw [HE.out]
          exact ⟨_, _, _, rfl, Trc.own_mono HOW.out (fun b hb => ⟨by have h1 := hb.1; omega, by have h2 := hb.2; omega⟩), HXX.out⟩
        · have k4 : ((k : Int) == 30) = false := by rw [beq_eq_false_iff_ne]; omega
          have cf26 := blk2 (Ext.block (hz1.trans hxq) HB0.out.1)
          have cf27 := blk10 (Ext.block (hz1.trans hxq) HB0.out.2.1)
          have cf28 := blk12 (Ext.block (hz1.trans hxq) HB0.out.2.2)
          have cf29 := blk12 HBQ.out
          have cf30 := blk12 HBR.out
          go_wp2_with fail
          refine (i_RemoteEnd t _ _ rv eg _ (hk.ext ((hx0.trans hz1).trans hxq))).mono ?_
          rintro e w2 ⟨rfl, hz2⟩
          try clear cf26
          try clear cf27
          try clear cf28
          try clear cf29
          try clear cf30
          have cf31 := blk2 (Ext.block ((hz1.trans hxq).trans hz2) HB0.out.1)
          have cf32 := blk10 (Ext.block ((hz1.trans hxq).trans hz2) HB0.out.2.1)
          have cf33 := blk12 (Ext.block ((hz1.trans hxq).trans hz2) HB0.out.2.2)
          have cf34 := blk12 (Ext.block hz2 HBQ.out)
          have cf35 := blk12 (Ext.block hz2 HBR.out)
          go_wp2_with fail
          go_roundg f0
          case measure => rw [HF.out]; exact Nat.lt_succ_self _
          case rel =>
            have hfv := HF.out
            refine ⟨_, _, k + 1, z, (l ++ [(⟨rv, iv, eg⟩ : Step)]), rfl, rfl, by go_num, by omega, by omega, by omega, Lib.hid (by rw [← trav_go HV.out, ← HF.out]; exact HTR.out), HZS, by simp; omega, ?_, (hxq.trans hz2)⟩
            unfold TSt
            rw [show (l ++ [(⟨rv, iv, eg⟩ : Step)]).length = l.length + 1 from by simp]
            exact ⟨on, cn, p0, m0, d0, p1, m1, d1, S1, Ext.block hz2 HBQ.out, hos3.ext hz2, Pkt.own_ext how4 hz2, fun b hb => ⟨(hSq b hb).1, Nat.lt_of_lt_of_le (hSq b hb).2.1 hz2.size, by have h1 := (hSv b hb).1; omega, (hSq b hb).2.2⟩⟩
      · by_cases k1 : cd = 1
        · subst k1
          have cf36 := blk2 (Ext.block (hz1.trans hxt) HB0.out.1)
          have cf37 := blk10 (Ext.block (hz1.trans hxt) HB0.out.2.1)
          have cf38 := blk12 (Ext.block (hz1.trans hxt) HB0.out.2.2)
          have cf39 := blk12 HBT.out
          have cf40 := blk12 HBW.out
          go_wp2_with (at_builtin; go_loud (refine app1p E Step.flen rfl _ _ rfl (⟨rv, iv, eg⟩ : Step) (Step.one _) rfl (OwnF.ext hos2 ((Ext.refl _).alloc _)) rfl (by exact blk_list (Step.f (⟨rv, iv, eg⟩ : Step)) (blk_new wt _)) (by omega) (by unfold maxLen; omega) (by exact (hxt.alloc _).size) ?_))
          intro v' w' ho' hg' hat
          have hbt1 := own_ne (OwnF.ext hos2 ((Ext.refl _).alloc _)) (Ext.block ((Ext.refl _).alloc _) HBT.out) (by decide) hg'
          have hbw1 := own_ne (OwnF.ext hos2 ((Ext.refl _).alloc _)) (Ext.block ((Ext.refl _).alloc _) HBW.out) (by decide) hg'
          have hx1 := Ext.app (hxt.alloc _) hg' hos2 (Nat.le_refl _)
          have how3 := Pkt.own_kept (Pkt.own_ext how2 ((Ext.refl _).alloc _)) (Chg.ofGrown (S := fun b => (Value.slice os l.length cs).ownBlock = some b) hg' (fun _ h => h)) (fun b hb e => hdis b hb e)
          have hsz3 := hg'.size
          simp only [nblk_alloc] at hsz3
          have hdis3 : ∀ b, S1 b → v'.ownBlock ≠ some b := by
            intro b hb e
            rcases hat with h | h
            · exact hdis b hb (h ▸ e)
            · rw [h] at e
              have h1 := (hSt b hb).2.1
              simp only [Option.some.injEq] at e
              omega
          obtain ⟨on, cn, hve, _⟩ := (OwnF.rd (hf := Step.flen) ho').shape
          rw [show (l ++ [(⟨rv, iv, eg⟩ : Step)]).length = l.length + 1 from by simp] at hve
          subst hve
          clear hat hg'
          obtain ⟨wq, hwq, hbq, hcq, hsq⟩ := cell_set hbt1 1 (.slice on (l.length + 1) cn)
          simp only [List.setIfInBounds_toArray, List.set_cons_succ, List.set_cons_zero] at hbq
          have HWQ := Lib.hid hwq
          have HBQ := Lib.hid hbq
          have HBR := Lib.hid (hcq.other hbw1 hne)
          have hos3 := ho'.chg hcq (fun kk hkk e => absurd hkk (by rw [e]; exact ho'.ne hbt1 (by decide)))
          have how4 := Pkt.own_kept how3 hcq (fun b hb e => by have h1 := (hSv b hb).1; omega)
          have hxq := hx1.chg1 hcq hge
          have hSq : ∀ b, S1 b → (w.heap.size + 1 + 1 + 1) ≤ b ∧ b < wq.heap.size ∧ (Value.slice on (l.length + 1) cn).ownBlock ≠ some b := fun b hb => ⟨(hSt b hb).1, by have h1 := (hSt b hb).2.1; omega, hdis3 b hb⟩
          have fg1 := fr_of hbt1 1
          have ct1 := blk12 hbt1
          have ct2 := blk12 hbw1
          clear hbt1 hbw1 hwq hbq how3 ho' hx1 hsq hsz3
          go_upto_region 11 with (fail)
          rw [← HWQ.out]
          clear fg1 ct1 ct2
          try clear cf36
          try clear cf37
          try clear cf38
          try clear cf39
          try clear cf40
          have HE : Hid ((traverse t now dead x) = ⟨1, (l ++ [(⟨rv, iv, eg⟩ : Step)]), z⟩) := Lib.hid (by rw [← HTR.out, HF.out]; exact trav_del HV.out)
          have OT := Lib.hid (Trc.own_of (cd := 1) (lo := (w.heap.size + 1 + 1 + 1)) hos3 how4 hs1 hSq)
          have hR := Ext.block (hz1.trans hxq) HB0.out.2.2
          obtain ⟨wc, hwc, hrc, hcc, hsc⟩ := vd_set hR (.int .i64 1) ((.slice on (l.length + 1) cn)) (.int .i64 z.kind) (.int .i64 z.src) (.int .i64 z.dst) ((.slice p0 m0 d0)) (.int .i64 z.pi) (.int .i64 z.hi) (.int .i64 z.beta) (.int .i64 z.rid) (.int .i64 z.seq) ((.slice p1 m1 d1))
          have HOW := Lib.hid (Trc.own_kept OT.out hcc (fun b hb e => by have h1 := hb.1; omega))
          have HXX := Lib.hid (((hx0.trans hz1).trans hxq).chg1 hcc (by omega))
          have HWC := Lib.hid hwc
          have HRC := Lib.hid hrc
          have hsz2 : wq.heap.size = wc.heap.size := by rw [hsc]
          have hRF := fun o => fr_of hR o
          have gr0 := hRF 0
          have gr1 := hRF 1
          have gr2 := hRF 2
          have gr3 := hRF 3
          have gr4 := hRF 4
          have gr5 := hRF 5
          have gr6 := hRF 6
          have gr7 := hRF 7
          have gr8 := hRF 8
          have gr9 := hRF 9
          have gr10 := hRF 10
          have gr11 := hRF 11
          clear hRF hR  hwc hrc hcc hsc
          have cf41 := blk2 (Ext.block (hz1.trans hxq) HB0.out.1)
          have cf42 := blk10 (Ext.block (hz1.trans hxq) HB0.out.2.1)
          have cf43 := blk12 (Ext.block (hz1.trans hxq) HB0.out.2.2)
          have cf44 := blk12 HBQ.out
          have cf45 := blk12 HBR.out
          go_wp2_with fail
          rw [← HWC.out]
          clear gr0 gr1 gr2 gr3 gr4 gr5 gr6 gr7 gr8 gr9 gr10 gr11 cf41 cf42 cf43 cf44 cf45
          have cc := blk12 HRC.out
          refine bodyPost_ret (v := .agg #[.int .i64 1, (.slice on (l.length + 1) cn), .int .i64 z.kind, .int .i64 z.src, .int .i64 z.dst, (.slice p0 m0 d0), .int .i64 z.pi, .int .i64 z.hi, .int .i64 z.beta, .int .i64 z.rid, .int .i64 z.seq, (.slice p1 m1 d1)]) (by simp [results, Tryz.results13, go_sem, cc]) rfl ?_
          rw [HE.out]
          exact ⟨_, _, _, rfl, Trc.own_mono HOW.out (fun b hb => ⟨by have h1 := hb.1; omega, by have h2 := hb.2; omega⟩), HXX.out⟩
        · have HE : Hid ((traverse t now dead x) = ⟨cd, l, z⟩) := Lib.hid (by rw [← HTR.out, HF.out]; exact trav_bad HV.out k0 k1)
          have k2 : 1 < cd := by have := HNN.out; omega
          have k5 : (cd == 0) = false := by rw [beq_eq_false_iff_ne]; exact k0
          have k6 : (cd != 0) = true := by simp only [bne, k5]; rfl
          have k7 : (cd == 1) = false := by rw [beq_eq_false_iff_ne]; exact k1
          have k8 : (cd != 1) = true := by simp only [bne, k7]; rfl
          have OT := Lib.hid (Trc.own_of (cd := cd) (lo := (w.heap.size + 1 + 1 + 1)) hos2 how2 hs1 hSt)
          have hR := Ext.block (hz1.trans hxt) HB0.out.2.2
          obtain ⟨wc, hwc, hrc, hcc, hsc⟩ := vd_set hR (.int .i64 cd) ((.slice os l.length cs)) (.int .i64 z.kind) (.int .i64 z.src) (.int .i64 z.dst) ((.slice p0 m0 d0)) (.int .i64 z.pi) (.int .i64 z.hi) (.int .i64 z.beta) (.int .i64 z.rid) (.int .i64 z.seq) ((.slice p1 m1 d1))
          have HOW := Lib.hid (Trc.own_kept OT.out hcc (fun b hb e => by have h1 := hb.1; omega))
          have HXX := Lib.hid (((hx0.trans hz1).trans hxt).chg1 hcc (by omega))
          have HWC := Lib.hid hwc
          have HRC := Lib.hid hrc
          have hsz2 : wt.heap.size = wc.heap.size := by rw [hsc]
          have hRF := fun o => fr_of hR o
          have gr0 := hRF 0
          have gr1 := hRF 1
          have gr2 := hRF 2
          have gr3 := hRF 3
          have gr4 := hRF 4
          have gr5 := hRF 5
          have gr6 := hRF 6
          have gr7 := hRF 7
          have gr8 := hRF 8
          have gr9 := hRF 9
          have gr10 := hRF 10
          have gr11 := hRF 11
          clear hRF hR  hwc hrc hcc hsc
          have cf46 := blk2 (Ext.block (hz1.trans hxt) HB0.out.1)
          have cf47 := blk10 (Ext.block (hz1.trans hxt) HB0.out.2.1)
          have cf48 := blk12 (Ext.block (hz1.trans hxt) HB0.out.2.2)
          have cf49 := blk12 HBT.out
          have cf50 := blk12 HBW.out
          go_wp2_with fail
          rw [← HWC.out]
          clear gr0 gr1 gr2 gr3 gr4 gr5 gr6 gr7 gr8 gr9 gr10 gr11 cf46 cf47 cf48 cf49 cf50
          have cc := blk12 HRC.out
          refine bodyPost_ret (v := .agg #[.int .i64 cd, (.slice os l.length cs), .int .i64 z.kind, .int .i64 z.src, .int .i64 z.dst, (.slice p0 m0 d0), .int .i64 z.pi, .int .i64 z.hi, .int .i64 z.beta, .int .i64 z.rid, .int .i64 z.seq, (.slice p1 m1 d1)]) (by simp [results, Tryz.results13, go_sem, cc]) rfl ?_
          rw [HE.out]
          exact ⟨_, _, _, rfl, Trc.own_mono HOW.out (fun b hb => ⟨by have h1 := hb.1; omega, by have h2 := hb.2; omega⟩), HXX.out⟩

set_option maxRecDepth 100000 in
set_option maxHeartbeats 40000000 in
theorem s_Traverse (t : Topo) (va vk : Value) (now : Int) (dead : List Int) (vd : Value) (x : Pkt) (v0 v1 : Value) (w : World) (ha : RdS ASd.rep w va t.ases) (hk : RdS Lnk.rep w vk t.links) (hd : RdS Rep.int w vd dead) (r0 : RdS Part.rep w v0 x.path.parts) (r1 : RdS Rep.byte w v1 x.pay) (ht : t.size ≤ 1048576) (hl : x.size ≤ 1048576) :
    Calls Tryz.prog 9 #[.agg #[va, vk], .int .i64 now, vd, .agg #[.int .i64 x.kind, .int .i64 x.src, .int .i64 x.dst, v0, .int .i64 x.pi, .int .i64 x.hi, .int .i64 x.beta, .int .i64 x.rid, .int .i64 x.seq, v1]] w fun e w' => ∃ u0 u1 u2, e = .returned (.agg #[.int .i64 (traverse t now dead x).code, u0, .int .i64 (traverse t now dead x).pkt.kind, .int .i64 (traverse t now dead x).pkt.src, .int .i64 (traverse t now dead x).pkt.dst, u1, .int .i64 (traverse t now dead x).pkt.pi, .int .i64 (traverse t now dead x).pkt.hi, .int .i64 (traverse t now dead x).pkt.beta, .int .i64 (traverse t now dead x).pkt.rid, .int .i64 (traverse t now dead x).pkt.seq, u2]) ∧ Trc.own (rng w.heap.size w'.heap.size) w' u0 u1 u2 (traverse t now dead x) ∧ Ext w w' := by
  obtain ⟨o, cap, rfl, hsm⟩ := r0.shape
  obtain ⟨oy, cy, rfl, hsy⟩ := r1.shape
  obtain ⟨od, cdd, rfl, _⟩ := hd.shape
  obtain ⟨E⟩ := elemStep
  have hx0 := ext3 w (.cells #[va, vk] 47) (.cells #[.int .i64 x.kind, .int .i64 x.src, .int .i64 x.dst, .slice o x.path.parts.length cap, .int .i64 x.pi, .int .i64 x.hi, .int .i64 x.beta, .int .i64 x.rid, .int .i64 x.seq, .slice oy x.pay.length cy] 40) (.cells #[.int .i64 0, .slice none 0 0, .int .i64 0, .int .i64 0, .int .i64 0, .slice none 0 0, .int .i64 0, .int .i64 0, .int .i64 0, .int .i64 0, .int .i64 0, .slice none 0 0] 42)
  have HB0 := Lib.hid (al3 w (.cells #[va, vk] 47) (.cells #[.int .i64 x.kind, .int .i64 x.src, .int .i64 x.dst, .slice o x.path.parts.length cap, .int .i64 x.pi, .int .i64 x.hi, .int .i64 x.beta, .int .i64 x.rid, .int .i64 x.seq, .slice oy x.pay.length cy] 40) (.cells #[.int .i64 0, .slice none 0 0, .int .i64 0, .int .i64 0, .int .i64 0, .slice none 0 0, .int .i64 0, .int .i64 0, .int .i64 0, .int .i64 0, .int .i64 0, .slice none 0 0] 42))
  go_enter Tryz.func9, Tryz.ntmps9
  have cf1 := blk2 HB0.out.1
  have cf2 := blk10 HB0.out.2.1
  have cf3 := blk12 HB0.out.2.2
  go_wp2_with fail
  refine (s_l26Copy x _ _ _ (r0.ext hx0) (r1.ext hx0) hl).mono ?_
  rintro e w1 ⟨u0, u1, rfl, ou, hz1⟩
  obtain ⟨p0, d0, rfl, _⟩ := (Pkt.own_rd0 ou).shape
  obtain ⟨p1, d1, rfl, _⟩ := (Pkt.own_rd1 ou).shape
  have hs1 : (w.heap.size + 1 + 1 + 1) ≤ w1.heap.size := by simpa using hz1.size
  obtain ⟨g, hgw⟩ : ∃ g : Nat, g = w1.heap.size := ⟨_, rfl⟩
  have hxc := (Ext.refl w1).alloc (.cells #[.int .i64 0, .slice none 0 0, .int .i64 x.kind, .int .i64 x.src, .int .i64 x.dst, .slice p0 x.path.parts.length d0, .int .i64 x.pi, .int .i64 x.hi, .int .i64 x.beta, .int .i64 x.rid, .int .i64 x.seq, .slice p1 x.pay.length d1] 42)
  have hge : w1.heap.size ≤ g := by rw [hgw]; exact Nat.le_refl _
  have HST0 : Hid (TSt (w.heap.size + 1 + 1 + 1) w1.heap.size g 0 [] x (w1.alloc (.cells #[.int .i64 0, .slice none 0 0, .int .i64 x.kind, .int .i64 x.src, .int .i64 x.dst, .slice p0 x.path.parts.length d0, .int .i64 x.pi, .int .i64 x.hi, .int .i64 x.beta, .int .i64 x.rid, .int .i64 x.seq, .slice p1 x.pay.length d1] 42))) := by
    rw [hgw]
    exact Lib.hid ⟨none, 0, _, _, _, _, _, _, _, blk_new _ _, OwnF.nil _ _ _ _ _, Pkt.own_ext ou ((Ext.refl _).alloc _), fun b hb => ⟨by have h1 := hb.1; simp at h1; omega, Nat.lt_of_lt_of_le hb.2 ((Ext.refl _).alloc _).size, (fun e => by rw [e] at hb; exact absurd hb.2 (Nat.lt_irrefl _)), by simp [Value.ownBlock]⟩⟩
  clear ou
  try clear cf1
  try clear cf2
  try clear cf3
  have cf4 := blk2 (Ext.block hz1 HB0.out.1)
  have cf5 := blk10 (Ext.block hz1 HB0.out.2.1)
  have cf6 := blk12 (Ext.block hz1 HB0.out.2.2)
  have cpk := blk10 (Ext.block (hz1.trans hxc) HB0.out.2.1)
  go_wp2_with fail
  rw [← hgw]
  clear hgw
  clear cpk
  try clear cf4
  try clear cf5
  try clear cf6
  go_loopg [10, 11, 12] 30 (fun gk ar ai ak wr => ∃ (rv iv : Int) (k : Nat) (y : Pkt) (l : List Step), ar = .int .i64 rv ∧ ai = .int .i64 iv ∧ ak = .int .i64 k ∧ gk + k = 30 ∧ 0 ≤ k ∧ k ≤ 30 ∧ Hid (trav t now dead gk rv iv y l = (traverse t now dead x)) ∧ Hid (y.size = x.size) ∧ l.length ≤ k ∧ TSt (w.heap.size + 1 + 1 + 1) w1.heap.size g 0 l y wr ∧ Ext w1 wr)
  case atStart => exact ⟨x.src, 0, 0, x, [], rfl, rfl, rfl, rfl, by omega, by omega, Lib.hid rfl, Lib.hid rfl, Nat.zero_le _, HST0.out, hxc⟩
  case round =>
    clear HST0 hxc
    obtain ⟨rv, iv, k, y, l, rfl, rfl, rfl, hn0, hn1, hn2, HTR, HYS, hll, hst, hx⟩ := hrel
    obtain ⟨os, cs, o0, n0, c0, o1, n1, c1, S0, hg, hos, hown, hS⟩ := hst
    have HGB := Lib.hid hg; clear hg
    have hly : y.size ≤ 1048576 := by rw [HYS.out]; exact hl
    by_cases k9 : k < 30
    · have k10 : (k : Int) < 30 := by omega
      obtain ⟨f0, hf0⟩ : ∃ f0, gk = f0 + 1 := ⟨gk - 1, by omega⟩
      have HF := Lib.hid hf0; clear hf0
      have rz0 := Pkt.own_rd0 hown
      have rz1 := Pkt.own_rd1 hown
      obtain ⟨v, hv⟩ : ∃ v, forward t rv now (failedIfs t dead rv) iv y = v := ⟨_, rfl⟩
      obtain ⟨cd, eg, z⟩ := v
      have HV := Lib.hid hv
      have HCD : Hid ((forward t rv now (failedIfs t dead rv) iv y).code = cd) := Lib.hid (by rw [hv])
      have HEG : Hid ((forward t rv now (failedIfs t dead rv) iv y).eg = eg) := Lib.hid (by rw [hv])
      have HZ : Hid ((forward t rv now (failedIfs t dead rv) iv y).pkt = z) := Lib.hid (by rw [hv])
      have HZS : Hid (z.size = x.size) := Lib.hid (by rw [← HZ.out, fw_size]; exact HYS.out)
      have HNN : Hid (0 ≤ cd) := Lib.hid (by rw [← HCD.out]; exact fw_nn _ _ _ _ _ _)
      clear hv
      have cf7 := blk2 (Ext.block (hz1.trans hx) HB0.out.1)
      have cf8 := blk10 (Ext.block (hz1.trans hx) HB0.out.2.1)
      have cf9 := blk12 (Ext.block (hz1.trans hx) HB0.out.2.2)
      have cf10 := blk12 HGB.out
      go_upto_region 7 with (fail)
      go_cut [13] (fun v13 wx => ∃ gv : Nat, v13 = .pointer (some ⟨gv, 0, none⟩) ∧ VSt wr.heap.size gv cd eg z wx ∧ wr.heap.size ≤ gv ∧ Ext wr wx)
      case first =>
        refine planStep (.blk [0, 1, 2, 3, 4, 5, 7, 8, 9] (.two 6 11 (.two 10 11 (.one 11 (.one 12 .done)) (.one 10 (.one 12 .done))) (.one 6 (.one 10 (.one 12 .done))))) [12] (by kernel_rfl) (by kernel_rfl) ?_
        refine blkStep (fun K HK => ?_)
        simp only [pick, List.filterMap_cons, List.filterMap_nil, List.getElem?_toArray, List.getElem?_cons_zero, List.getElem?_cons_succ]
        go_wp2_with fail
        refine HK.out _ _ ?_
        clear HK K
        refine twoStep ?_ ?_
        · refine oneStep (fun K HK => ?_)
          simp only [pick, List.filterMap_cons, List.filterMap_nil, List.getElem?_toArray, List.getElem?_cons_zero, List.getElem?_cons_succ]
          go_wp2_with fail
          refine (s_FailedInterfaces t _ _ dead _ rv _ (ha.ext (((hx0.trans hz1).trans hx).trans (Ext.refl _).drew)) (hk.ext (((hx0.trans hz1).trans hx).trans (Ext.refl _).drew)) (hd.ext (((hx0.trans hz1).trans hx).trans (Ext.refl _).drew)) ht).mono ?_
          rintro e wk0 ⟨rfl, hk0⟩
          have hcc1 := blk2 (Ext.block ((hz1.trans hx).trans ((Ext.refl _).drew.trans hk0)) HB0.out.1)
          have hcc2 := blk10 (Ext.block ((hz1.trans hx).trans ((Ext.refl _).drew.trans hk0)) HB0.out.2.1)
          have hcc3 := blk12 (Ext.block ((hz1.trans hx).trans ((Ext.refl _).drew.trans hk0)) HB0.out.2.2)
          have hcc4 := blk12 (Ext.block ((Ext.refl _).trans ((Ext.refl _).drew.trans hk0)) HGB.out)
          go_wp2_with fail
          refine HK.out _ _ hk0 ?_
          clear HK K
          refine twoStep ?_ ?_
          · refine oneStep (fun K HK => ?_)
            simp only [pick, List.filterMap_cons, List.filterMap_nil, List.getElem?_toArray, List.getElem?_cons_zero, List.getElem?_cons_succ]
            go_wp2_with fail
            refine (s_Forward t _ _ rv now (failedIfs t dead rv) iv y _ _ _ (ha.ext (((hx0.trans hz1).trans hx).trans ((Ext.refl _).drew.trans hk0))) (hk.ext (((hx0.trans hz1).trans hx).trans ((Ext.refl _).drew.trans hk0))) (rz0.ext ((Ext.refl _).drew.trans hk0)) (rz1.ext ((Ext.refl _).drew.trans hk0)) hly).mono ?_
            rintro e wk1 ⟨u0, u1, rfl, ou, hk1⟩
            rw [HCD.out, HEG.out, HZ.out]
            rw [HZ.out] at ou
            obtain ⟨p0, d0, rfl, _⟩ := (Pkt.own_rd0 ou).shape
            obtain ⟨p1, d1, rfl, _⟩ := (Pkt.own_rd1 ou).shape
            have hcc5 := blk2 (Ext.block ((hz1.trans hx).trans (((Ext.refl _).drew.trans hk0).trans hk1)) HB0.out.1)
            have hcc6 := blk10 (Ext.block ((hz1.trans hx).trans (((Ext.refl _).drew.trans hk0).trans hk1)) HB0.out.2.1)
            have hcc7 := blk12 (Ext.block ((hz1.trans hx).trans (((Ext.refl _).drew.trans hk0).trans hk1)) HB0.out.2.2)
            have hcc8 := blk12 (Ext.block ((Ext.refl _).trans (((Ext.refl _).drew.trans hk0).trans hk1)) HGB.out)
            go_wp2_with fail
            refine HK.out _ _ hk1 ?_
            clear HK K
            refine oneStep (fun K HK => ?_)
            simp only [pick, List.filterMap_cons, List.filterMap_nil, List.getElem?_toArray, List.getElem?_cons_zero, List.getElem?_cons_succ]
            go_wp2_with fail
            refine HK.out _ _ ((Ext.refl _).alloc _) ?_
            clear HK K
            refine badStep (by kernel_rfl) (fun K HK => ?_)
            simp only [pick, List.filterMap_cons, List.filterMap_nil, List.getElem?_toArray, List.getElem?_cons_zero, List.getElem?_cons_succ]
            go_wp2_with fail
            refine HK.out _ _ ?_
            clear HK K
            refine doneStep (by kernel_rfl) ?_
            go_wp2_with fail
            go_meet
            exact ⟨_, rfl, ⟨p0, _, d0, p1, _, d1, _, blk_new _ _, Pkt.own_ext ou ((Ext.refl _).alloc _), fun b hb => ⟨Nat.le_trans ((Ext.refl _).drew.trans hk0).size hb.1, Nat.lt_of_lt_of_le hb.2 ((Ext.refl _).alloc _).size, fun e => by rw [e] at hb; exact absurd hb.2 (Nat.lt_irrefl _)⟩⟩, (((Ext.refl _).drew.trans hk0).trans hk1).size, (((Ext.refl _).drew.trans hk0).trans hk1).alloc _⟩
          · have hba := blk_new wk0 (.cells #[.int .i64 0, .int .i64 0, .int .i64 0, .int .i64 0, .int .i64 0, .slice none 0 0, .int .i64 0, .int .i64 0, .int .i64 0, .int .i64 0, .int .i64 0, .slice none 0 0] 66)
            have HBA := Lib.hid hba; clear hba
            refine oneStep (fun K HK => ?_)
            simp only [pick, List.filterMap_cons, List.filterMap_nil, List.getElem?_toArray, List.getElem?_cons_zero, List.getElem?_cons_succ]
            go_wp2_with fail
            refine HK.out _ _ ((Ext.refl _).alloc _) ?_
            clear HK K
            refine oneStep (fun K HK => ?_)
            simp only [pick, List.filterMap_cons, List.filterMap_nil, List.getElem?_toArray, List.getElem?_cons_zero, List.getElem?_cons_succ]
            go_wp2_with fail
            refine (s_Forward t _ _ rv now (failedIfs t dead rv) iv y _ _ _ (ha.ext (((hx0.trans hz1).trans hx).trans (((Ext.refl _).drew.trans hk0).trans ((Ext.refl _).alloc _)))) (hk.ext (((hx0.trans hz1).trans hx).trans (((Ext.refl _).drew.trans hk0).trans ((Ext.refl _).alloc _)))) (rz0.ext (((Ext.refl _).drew.trans hk0).trans ((Ext.refl _).alloc _))) (rz1.ext (((Ext.refl _).drew.trans hk0).trans ((Ext.refl _).alloc _))) hly).mono ?_
            rintro e wk1 ⟨u0, u1, rfl, ou, hk1⟩
            rw [HCD.out, HEG.out, HZ.out]
            rw [HZ.out] at ou
            obtain ⟨p0, d0, rfl, _⟩ := (Pkt.own_rd0 ou).shape
            obtain ⟨p1, d1, rfl, _⟩ := (Pkt.own_rd1 ou).shape
            have hcc9 := blk2 (Ext.block ((hz1.trans hx).trans ((((Ext.refl _).drew.trans hk0).trans ((Ext.refl _).alloc _)).trans hk1)) HB0.out.1)
            have hcc10 := blk10 (Ext.block ((hz1.trans hx).trans ((((Ext.refl _).drew.trans hk0).trans ((Ext.refl _).alloc _)).trans hk1)) HB0.out.2.1)
            have hcc11 := blk12 (Ext.block ((hz1.trans hx).trans ((((Ext.refl _).drew.trans hk0).trans ((Ext.refl _).alloc _)).trans hk1)) HB0.out.2.2)
            have hcc12 := blk12 (Ext.block ((Ext.refl _).trans ((((Ext.refl _).drew.trans hk0).trans ((Ext.refl _).alloc _)).trans hk1)) HGB.out)
            go_wp2_with fail
            refine HK.out _ _ hk1 ?_
            clear HK K
            have hbs := Ext.block hk1 HBA.out
            have hcs := blk12 hbs
            have hfs0 := fr_of hbs 0
            have hfs1 := fr_of hbs 1
            have hfs2 := fr_of hbs 2
            have hfs3 := fr_of hbs 3
            have hfs4 := fr_of hbs 4
            have hfs5 := fr_of hbs 5
            have hfs6 := fr_of hbs 6
            have hfs7 := fr_of hbs 7
            have hfs8 := fr_of hbs 8
            have hfs9 := fr_of hbs 9
            have hfs10 := fr_of hbs 10
            have hfs11 := fr_of hbs 11
            have HBS := Lib.hid hbs; clear hbs
            refine badStep (by kernel_rfl) (fun K HK => ?_)
            simp only [pick, List.filterMap_cons, List.filterMap_nil, List.getElem?_toArray, List.getElem?_cons_zero, List.getElem?_cons_succ]
            go_wp2_with fail
            refine HK.out _ _ ?_
            clear HK K
            refine doneStep (by kernel_rfl) ?_
            go_wp2_with fail
            go_meet
            obtain ⟨wq, hwq, hbq, hcq, hsq⟩ := vd_set HBS.out (.int .i64 cd) (.int .i64 eg) (.int .i64 z.kind) (.int .i64 z.src) (.int .i64 z.dst) ((.slice p0 z.path.parts.length d0)) (.int .i64 z.pi) (.int .i64 z.hi) (.int .i64 z.beta) (.int .i64 z.rid) (.int .i64 z.seq) ((.slice p1 z.pay.length d1))
            rw [← hwq]
            exact ⟨_, rfl, ⟨p0, _, d0, p1, _, d1, _, hbq, Pkt.own_kept (Pkt.own_ext ou (Ext.refl _)) hcq (fun b (hb : rng _ _ b) (e : b = _) => absurd hb.1 (by rw [e]; exact Nat.not_le.2 (Nat.lt_of_lt_of_le (blk_lt HBA.out) (Ext.refl _).size))), fun b hb => ⟨Nat.le_trans (((Ext.refl _).drew.trans hk0).trans ((Ext.refl _).alloc _)).size hb.1, by rw [hsq]; exact Nat.lt_of_lt_of_le hb.2 (Ext.refl _).size, (fun b (hb : rng _ _ b) (e : b = _) => absurd hb.1 (by rw [e]; exact Nat.not_le.2 (Nat.lt_of_lt_of_le (blk_lt HBA.out) (Ext.refl _).size))) b hb⟩⟩, ((Ext.refl _).drew.trans hk0).size, ((((Ext.refl _).drew.trans hk0).trans ((Ext.refl _).alloc _)).trans hk1).chg1 hcq ((Ext.refl _).drew.trans hk0).size⟩
        · have hba := blk_new wr (.cells #[.int .i64 0, .int .i64 0, .int .i64 0, .int .i64 0, .int .i64 0, .slice none 0 0, .int .i64 0, .int .i64 0, .int .i64 0, .int .i64 0, .int .i64 0, .slice none 0 0] 66)
          have HBA := Lib.hid hba; clear hba
          refine oneStep (fun K HK => ?_)
          simp only [pick, List.filterMap_cons, List.filterMap_nil, List.getElem?_toArray, List.getElem?_cons_zero, List.getElem?_cons_succ]
          go_wp2_with fail
          refine HK.out _ _ ((Ext.refl _).alloc _) ?_
          clear HK K
          refine oneStep (fun K HK => ?_)
          simp only [pick, List.filterMap_cons, List.filterMap_nil, List.getElem?_toArray, List.getElem?_cons_zero, List.getElem?_cons_succ]
          go_wp2_with fail
          refine (s_FailedInterfaces t _ _ dead _ rv _ (ha.ext (((hx0.trans hz1).trans hx).trans ((Ext.refl _).drew.trans ((Ext.refl _).alloc _)))) (hk.ext (((hx0.trans hz1).trans hx).trans ((Ext.refl _).drew.trans ((Ext.refl _).alloc _)))) (hd.ext (((hx0.trans hz1).trans hx).trans ((Ext.refl _).drew.trans ((Ext.refl _).alloc _)))) ht).mono ?_
          rintro e wk0 ⟨rfl, hk0⟩
          have hcc13 := blk2 (Ext.block ((hz1.trans hx).trans (((Ext.refl _).drew.trans ((Ext.refl _).alloc _)).trans hk0)) HB0.out.1)
          have hcc14 := blk10 (Ext.block ((hz1.trans hx).trans (((Ext.refl _).drew.trans ((Ext.refl _).alloc _)).trans hk0)) HB0.out.2.1)
          have hcc15 := blk12 (Ext.block ((hz1.trans hx).trans (((Ext.refl _).drew.trans ((Ext.refl _).alloc _)).trans hk0)) HB0.out.2.2)
          have hcc16 := blk12 (Ext.block ((Ext.refl _).trans (((Ext.refl _).drew.trans ((Ext.refl _).alloc _)).trans hk0)) HGB.out)
          go_wp2_with fail
          refine HK.out _ _ hk0 ?_
          clear HK K
          refine oneStep (fun K HK => ?_)
          simp only [pick, List.filterMap_cons, List.filterMap_nil, List.getElem?_toArray, List.getElem?_cons_zero, List.getElem?_cons_succ]
          go_wp2_with fail
          refine (s_Forward t _ _ rv now (failedIfs t dead rv) iv y _ _ _ (ha.ext (((hx0.trans hz1).trans hx).trans (((Ext.refl _).drew.trans ((Ext.refl _).alloc _)).trans hk0))) (hk.ext (((hx0.trans hz1).trans hx).trans (((Ext.refl _).drew.trans ((Ext.refl _).alloc _)).trans hk0))) (rz0.ext (((Ext.refl _).drew.trans ((Ext.refl _).alloc _)).trans hk0)) (rz1.ext (((Ext.refl _).drew.trans ((Ext.refl _).alloc _)).trans hk0)) hly).mono ?_
          rintro e wk1 ⟨u0, u1, rfl, ou, hk1⟩
          rw [HCD.out, HEG.out, HZ.out]
          rw [HZ.out] at ou
          obtain ⟨p0, d0, rfl, _⟩ := (Pkt.own_rd0 ou).shape
          obtain ⟨p1, d1, rfl, _⟩ := (Pkt.own_rd1 ou).shape
          have hcc17 := blk2 (Ext.block ((hz1.trans hx).trans ((((Ext.refl _).drew.trans ((Ext.refl _).alloc _)).trans hk0).trans hk1)) HB0.out.1)
          have hcc18 := blk10 (Ext.block ((hz1.trans hx).trans ((((Ext.refl _).drew.trans ((Ext.refl _).alloc _)).trans hk0).trans hk1)) HB0.out.2.1)
          have hcc19 := blk12 (Ext.block ((hz1.trans hx).trans ((((Ext.refl _).drew.trans ((Ext.refl _).alloc _)).trans hk0).trans hk1)) HB0.out.2.2)
          have hcc20 := blk12 (Ext.block ((Ext.refl _).trans ((((Ext.refl _).drew.trans ((Ext.refl _).alloc _)).trans hk0).trans hk1)) HGB.out)
          go_wp2_with fail
          refine HK.out _ _ hk1 ?_
          clear HK K
          have hbs := Ext.block (hk0.trans hk1) HBA.out
          have hcs := blk12 hbs
          have hfs0 := fr_of hbs 0
          have hfs1 := fr_of hbs 1
          have hfs2 := fr_of hbs 2
          have hfs3 := fr_of hbs 3
          have hfs4 := fr_of hbs 4
          have hfs5 := fr_of hbs 5
          have hfs6 := fr_of hbs 6
          have hfs7 := fr_of hbs 7
          have hfs8 := fr_of hbs 8
          have hfs9 := fr_of hbs 9
          have hfs10 := fr_of hbs 10
          have hfs11 := fr_of hbs 11
          have HBS := Lib.hid hbs; clear hbs
          refine badStep (by kernel_rfl) (fun K HK => ?_)
          simp only [pick, List.filterMap_cons, List.filterMap_nil, List.getElem?_toArray, List.getElem?_cons_zero, List.getElem?_cons_succ]
          go_wp2_with fail
          refine HK.out _ _ ?_
          clear HK K
          refine doneStep (by kernel_rfl) ?_
          go_wp2_with fail
          go_meet
          obtain ⟨wq, hwq, hbq, hcq, hsq⟩ := vd_set HBS.out (.int .i64 cd) (.int .i64 eg) (.int .i64 z.kind) (.int .i64 z.src) (.int .i64 z.dst) ((.slice p0 z.path.parts.length d0)) (.int .i64 z.pi) (.int .i64 z.hi) (.int .i64 z.beta) (.int .i64 z.rid) (.int .i64 z.seq) ((.slice p1 z.pay.length d1))
          rw [← hwq]
          exact ⟨_, rfl, ⟨p0, _, d0, p1, _, d1, _, hbq, Pkt.own_kept (Pkt.own_ext ou (Ext.refl _)) hcq (fun b (hb : rng _ _ b) (e : b = _) => absurd hb.1 (by rw [e]; exact Nat.not_le.2 (Nat.lt_of_lt_of_le (blk_lt HBA.out) hk0.size))), fun b hb => ⟨Nat.le_trans (((Ext.refl _).drew.trans ((Ext.refl _).alloc _)).trans hk0).size hb.1, by rw [hsq]; exact Nat.lt_of_lt_of_le hb.2 (Ext.refl _).size, (fun b (hb : rng _ _ b) (e : b = _) => absurd hb.1 (by rw [e]; exact Nat.not_le.2 (Nat.lt_of_lt_of_le (blk_lt HBA.out) hk0.size))) b hb⟩⟩, (Ext.refl _).drew.size, ((((Ext.refl _).drew.trans ((Ext.refl _).alloc _)).trans hk0).trans hk1).chg1 hcq (Ext.refl _).drew.size⟩
      case rest =>
        obtain ⟨gv, rfl, ⟨p0, m0, d0, p1, m1, d1, S1, hbv, hov, hSv⟩, hvge, hxv⟩ := hcut
        obtain ⟨wv, hwv⟩ : ∃ wv : World, wv = wc := ⟨_, rfl⟩
        subst hwv
        have hgl : g < wr.heap.size := blk_lt HGB.out
        have hne : gv ≠ g := by omega
        have HBV := Lib.hid hbv; clear hbv
        have hG := Ext.block hxv HGB.out
        obtain ⟨wt, hwt, hbt, hct, hszt⟩ := tr_set hG (.int .i64 cd) (.int .i64 z.kind) (.int .i64 z.src) (.int .i64 z.dst) ((.slice p0 m0 d0)) (.int .i64 z.pi) (.int .i64 z.hi) (.int .i64 z.beta) (.int .i64 z.rid) (.int .i64 z.seq) ((.slice p1 m1 d1))
        have HWT := Lib.hid hwt
        have HBT := Lib.hid hbt
        have HBW := Lib.hid (hct.other HBV.out hne)
        have hos2 := (hos.ext hxv).chg hct (fun kk hkk e => absurd hkk (by rw [e]; exact (hos.ext hxv).ne hG (by decide)))
        have how2 := Pkt.own_kept hov hct (fun b hb e => by have h1 := (hSv b hb).1; omega)
        have hxt := (hx.trans hxv).chg1 hct hge
        have hdis : ∀ b, S1 b → (Value.slice os l.length cs).ownBlock ≠ some b := fun b hb e => by have h1 := (hSv b hb).1; have h2 := (hos.block b e).2; omega
        have hSt : ∀ b, S1 b → (w.heap.size + 1 + 1 + 1) ≤ b ∧ b < wt.heap.size ∧ (Value.slice os l.length cs).ownBlock ≠ some b := fun b hb => ⟨by have h1 := (hSv b hb).1; omega, by have h1 := (hSv b hb).2.1; omega, hdis b hb⟩
        have hfg0 := fr_of hG 0
        have hfg2 := fr_of hG 2
        have hfg3 := fr_of hG 3
        have hfg4 := fr_of hG 4
        have hfg5 := fr_of hG 5
        have hfg6 := fr_of hG 6
        have hfg7 := fr_of hG 7
        have hfg8 := fr_of hG 8
        have hfg9 := fr_of hG 9
        have hfg10 := fr_of hG 10
        have hfg11 := fr_of hG 11
        clear hwt hbt hG hszt
        try clear cf7
        try clear cf8
        try clear cf9
        try clear cf10
        have cf11 := blk2 (Ext.block ((hz1.trans hx).trans hxv) HB0.out.1)
        have cf12 := blk10 (Ext.block ((hz1.trans hx).trans hxv) HB0.out.2.1)
        have cf13 := blk12 (Ext.block ((hz1.trans hx).trans hxv) HB0.out.2.2)
        have cf14 := blk12 (Ext.block hxv HGB.out)
        have cf15 := blk12 HBV.out
        go_upto_region 10 with (fail)
        rw [← HWT.out]
        clear hfg0 hfg2 hfg3 hfg4 hfg5 hfg6 hfg7 hfg8 hfg9 hfg10 hfg11
        clear cf11
        clear cf12
        clear cf13
        clear cf14
        clear cf15
        by_cases k0 : cd = 0
        · subst k0
          have cf16 := blk2 (Ext.block (hz1.trans hxt) HB0.out.1)
          have cf17 := blk10 (Ext.block (hz1.trans hxt) HB0.out.2.1)
          have cf18 := blk12 (Ext.block (hz1.trans hxt) HB0.out.2.2)
          have cf19 := blk12 HBT.out
          have cf20 := blk12 HBW.out
          go_wp2_with (at_builtin; go_loud (refine app1p E Step.flen rfl _ _ rfl (⟨rv, iv, eg⟩ : Step) (Step.one _) rfl (OwnF.ext hos2 ((Ext.refl _).alloc _)) rfl (by exact blk_list (Step.f (⟨rv, iv, eg⟩ : Step)) (blk_new wt _)) (by omega) (by unfold maxLen; omega) (by exact (hxt.alloc _).size) ?_))
          intro v' w' ho' hg' hat
          have hbt1 := own_ne (OwnF.ext hos2 ((Ext.refl _).alloc _)) (Ext.block ((Ext.refl _).alloc _) HBT.out) (by decide) hg'
          have hbw1 := own_ne (OwnF.ext hos2 ((Ext.refl _).alloc _)) (Ext.block ((Ext.refl _).alloc _) HBW.out) (by decide) hg'
          have hx1 := Ext.app (hxt.alloc _) hg' hos2 (Nat.le_refl _)
          have how3 := Pkt.own_kept (Pkt.own_ext how2 ((Ext.refl _).alloc _)) (Chg.ofGrown (S := fun b => (Value.slice os l.length cs).ownBlock = some b) hg' (fun _ h => h)) (fun b hb e => hdis b hb e)
          have hsz3 := hg'.size
          simp only [nblk_alloc] at hsz3
          have hdis3 : ∀ b, S1 b → v'.ownBlock ≠ some b := by
            intro b hb e
            rcases hat with h | h
            · exact hdis b hb (h ▸ e)
            · rw [h] at e
              have h1 := (hSt b hb).2.1
              simp only [Option.some.injEq] at e
              omega
          obtain ⟨on, cn, hve, _⟩ := (OwnF.rd (hf := Step.flen) ho').shape
          rw [show (l ++ [(⟨rv, iv, eg⟩ : Step)]).length = l.length + 1 from by simp] at hve
          subst hve
          clear hat hg'
          obtain ⟨wq, hwq, hbq, hcq, hsq⟩ := cell_set hbt1 1 (.slice on (l.length + 1) cn)
          simp only [List.setIfInBounds_toArray, List.set_cons_succ, List.set_cons_zero] at hbq
          have HWQ := Lib.hid hwq
          have HBQ := Lib.hid hbq
          have HBR := Lib.hid (hcq.other hbw1 hne)
          have hos3 := ho'.chg hcq (fun kk hkk e => absurd hkk (by rw [e]; exact ho'.ne hbt1 (by decide)))
          have how4 := Pkt.own_kept how3 hcq (fun b hb e => by have h1 := (hSv b hb).1; omega)
          have hxq := hx1.chg1 hcq hge
          have hSq : ∀ b, S1 b → (w.heap.size + 1 + 1 + 1) ≤ b ∧ b < wq.heap.size ∧ (Value.slice on (l.length + 1) cn).ownBlock ≠ some b := fun b hb => ⟨(hSt b hb).1, by have h1 := (hSt b hb).2.1; omega, hdis3 b hb⟩
          have fg1 := fr_of hbt1 1
          have ct1 := blk12 hbt1
          have ct2 := blk12 hbw1
          clear hbt1 hbw1 hwq hbq how3 ho' hx1 hsq hsz3
          go_upto_region 13 with (fail)
          rw [← HWQ.out]
          clear fg1 ct1 ct2
          try clear cf16
          try clear cf17
          try clear cf18
          try clear cf19
          try clear cf20
          have cf21 := blk2 (Ext.block (hz1.trans hxq) HB0.out.1)
          have cf22 := blk10 (Ext.block (hz1.trans hxq) HB0.out.2.1)
          have cf23 := blk12 (Ext.block (hz1.trans hxq) HB0.out.2.2)
          have cf24 := blk12 HBQ.out
          have cf25 := blk12 HBR.out
          go_wp2_with fail
          refine (s_RemoteEnd t _ _ rv eg _ (hk.ext ((hx0.trans hz1).trans hxq))).mono ?_
          rintro e w2 ⟨rfl, hz2⟩
          try clear cf21
          try clear cf22
          try clear cf23
          try clear cf24
          try clear cf25
          have cf26 := blk2 (Ext.block ((hz1.trans hxq).trans hz2) HB0.out.1)
          have cf27 := blk10 (Ext.block ((hz1.trans hxq).trans hz2) HB0.out.2.1)
          have cf28 := blk12 (Ext.block ((hz1.trans hxq).trans hz2) HB0.out.2.2)
          have cf29 := blk12 (Ext.block hz2 HBQ.out)
          have cf30 := blk12 (Ext.block hz2 HBR.out)
          go_wp2_with fail
          go_roundg f0
          case measure => rw [HF.out]; exact Nat.lt_succ_self _
          case rel =>
            have hfv := HF.out
            refine ⟨_, _, k + 1, z, (l ++ [(⟨rv, iv, eg⟩ : Step)]), rfl, rfl, by go_num, by omega, by omega, by omega, Lib.hid (by rw [← trav_go HV.out, ← HF.out]; exact HTR.out), HZS, by simp; omega, ?_, (hxq.trans hz2)⟩
            unfold TSt
            rw [show (l ++ [(⟨rv, iv, eg⟩ : Step)]).length = l.length + 1 from by simp]
            exact ⟨on, cn, p0, m0, d0, p1, m1, d1, S1, Ext.block hz2 HBQ.out, hos3.ext hz2, Pkt.own_ext how4 hz2, fun b hb => ⟨(hSq b hb).1, Nat.lt_of_lt_of_le (hSq b hb).2.1 hz2.size, by have h1 := (hSv b hb).1; omega, (hSq b hb).2.2⟩⟩
        · by_cases k1 : cd = 1
          · subst k1
            have cf31 := blk2 (Ext.block (hz1.trans hxt) HB0.out.1)
            have cf32 := blk10 (Ext.block (hz1.trans hxt) HB0.out.2.1)
            have cf33 := blk12 (Ext.block (hz1.trans hxt) HB0.out.2.2)
            have cf34 := blk12 HBT.out
            have cf35 := blk12 HBW.out
            go_wp2_with (at_builtin; go_loud (refine app1p E Step.flen rfl _ _ rfl (⟨rv, iv, eg⟩ : Step) (Step.one _) rfl (OwnF.ext hos2 ((Ext.refl _).alloc _)) rfl (by exact blk_list (Step.f (⟨rv, iv, eg⟩ : Step)) (blk_new wt _)) (by omega) (by unfold maxLen; omega) (by exact (hxt.alloc _).size) ?_))
            intro v' w' ho' hg' hat
            have hbt1 := own_ne (OwnF.ext hos2 ((Ext.refl _).alloc _)) (Ext.block ((Ext.refl _).alloc _) HBT.out) (by decide) hg'
            have hbw1 := own_ne (OwnF.ext hos2 ((Ext.refl _).alloc _)) (Ext.block ((Ext.refl _).alloc _) HBW.out) (by decide) hg'
            have hx1 := Ext.app (hxt.alloc _) hg' hos2 (Nat.le_refl _)
            have how3 := Pkt.own_kept (Pkt.own_ext how2 ((Ext.refl _).alloc _)) (Chg.ofGrown (S := fun b => (Value.slice os l.length cs).ownBlock = some b) hg' (fun _ h => h)) (fun b hb e => hdis b hb e)
            have hsz3 := hg'.size
            simp only [nblk_alloc] at hsz3
            have hdis3 : ∀ b, S1 b → v'.ownBlock ≠ some b := by
              intro b hb e
              rcases hat with h | h
              · exact hdis b hb (h ▸ e)
              · rw [h] at e
                have h1 := (hSt b hb).2.1
                simp only [Option.some.injEq] at e
                omega
            obtain ⟨on, cn, hve, _⟩ := (OwnF.rd (hf := Step.flen) ho').shape
            rw [show (l ++ [(⟨rv, iv, eg⟩ : Step)]).length = l.length + 1 from by simp] at hve
            subst hve
            clear hat hg'
            obtain ⟨wq, hwq, hbq, hcq, hsq⟩ := cell_set hbt1 1 (.slice on (l.length + 1) cn)
            simp only [List.setIfInBounds_toArray, List.set_cons_succ, List.set_cons_zero] at hbq
            have HWQ := Lib.hid hwq
            have HBQ := Lib.hid hbq
            have HBR := Lib.hid (hcq.other hbw1 hne)
            have hos3 := ho'.chg hcq (fun kk hkk e => absurd hkk (by rw [e]; exact ho'.ne hbt1 (by decide)))
            have how4 := Pkt.own_kept how3 hcq (fun b hb e => by have h1 := (hSv b hb).1; omega)
            have hxq := hx1.chg1 hcq hge
            have hSq : ∀ b, S1 b → (w.heap.size + 1 + 1 + 1) ≤ b ∧ b < wq.heap.size ∧ (Value.slice on (l.length + 1) cn).ownBlock ≠ some b := fun b hb => ⟨(hSt b hb).1, by have h1 := (hSt b hb).2.1; omega, hdis3 b hb⟩
            have fg1 := fr_of hbt1 1
            have ct1 := blk12 hbt1
            have ct2 := blk12 hbw1
            clear hbt1 hbw1 hwq hbq how3 ho' hx1 hsq hsz3
            go_upto_region 13 with (fail)
            rw [← HWQ.out]
            clear fg1 ct1 ct2
            try clear cf31
            try clear cf32
            try clear cf33
            try clear cf34
            try clear cf35
            have HE : Hid ((traverse t now dead x) = ⟨1, (l ++ [(⟨rv, iv, eg⟩ : Step)]), z⟩) := Lib.hid (by rw [← HTR.out, HF.out]; exact trav_del HV.out)
            have OT := Lib.hid (Trc.own_of (cd := 1) (lo := (w.heap.size + 1 + 1 + 1)) hos3 how4 hs1 hSq)
            have hR := Ext.block (hz1.trans hxq) HB0.out.2.2
            obtain ⟨wc, hwc, hrc, hcc, hsc⟩ := vd_set hR (.int .i64 1) ((.slice on (l.length + 1) cn)) (.int .i64 z.kind) (.int .i64 z.src) (.int .i64 z.dst) ((.slice p0 m0 d0)) (.int .i64 z.pi) (.int .i64 z.hi) (.int .i64 z.beta) (.int .i64 z.rid) (.int .i64 z.seq) ((.slice p1 m1 d1))
            have HOW := Lib.hid (Trc.own_kept OT.out hcc (fun b hb e => by have h1 := hb.1; omega))
            have HXX := Lib.hid (((hx0.trans hz1).trans hxq).chg1 hcc (by omega))
            have HWC := Lib.hid hwc
            have HRC := Lib.hid hrc
            have hsz2 : wq.heap.size = wc.heap.size := by rw [hsc]
            have hRF := fun o => fr_of hR o
            have gr0 := hRF 0
            have gr1 := hRF 1
            have gr2 := hRF 2
            have gr3 := hRF 3
            have gr4 := hRF 4
            have gr5 := hRF 5
            have gr6 := hRF 6
            have gr7 := hRF 7
            have gr8 := hRF 8
            have gr9 := hRF 9
            have gr10 := hRF 10
            have gr11 := hRF 11
            clear hRF hR  hwc hrc hcc hsc
            have cf36 := blk2 (Ext.block (hz1.trans hxq) HB0.out.1)
            have cf37 := blk10 (Ext.block (hz1.trans hxq) HB0.out.2.1)
            have cf38 := blk12 (Ext.block (hz1.trans hxq) HB0.out.2.2)
            have cf39 := blk12 HBQ.out
            have cf40 := blk12 HBR.out
            go_wp2_with fail
            rw [← HWC.out]
            clear gr0 gr1 gr2 gr3 gr4 gr5 gr6 gr7 gr8 gr9 gr10 gr11 cf36 cf37 cf38 cf39 cf40
            have cc := blk12 HRC.out
            refine bodyPost_ret (v := .agg #[.int .i64 1, (.slice on (l.length + 1) cn), .int .i64 z.kind, .int .i64 z.src, .int .i64 z.dst, (.slice p0 m0 d0), .int .i64 z.pi, .int .i64 z.hi, .int .i64 z.beta, .int .i64 z.rid, .int .i64 z.seq, (.slice p1 m1 d1)]) (by simp [results, Tryz.results9, go_sem, cc]) rfl ?_
            rw [HE.out]
            exact ⟨_, _, _, rfl, Trc.own_mono HOW.out (fun b hb => ⟨by have h1 := hb.1; omega, by have h2 := hb.2; omega⟩), HXX.out⟩
          · have HE : Hid ((traverse t now dead x) = ⟨cd, l, z⟩) := Lib.hid (by rw [← HTR.out, HF.out]; exact trav_bad HV.out k0 k1)
            have k2 : 1 < cd := by have := HNN.out; omega
            have k5 : (cd == 0) = false := by rw [beq_eq_false_iff_ne]; exact k0
            have k6 : (cd != 0) = true := by simp only [bne, k5]; rfl
            have k7 : (cd == 1) = false := by rw [beq_eq_false_iff_ne]; exact k1
            have k8 : (cd != 1) = true := by simp only [bne, k7]; rfl
            have OT := Lib.hid (Trc.own_of (cd := cd) (lo := (w.heap.size + 1 + 1 + 1)) hos2 how2 hs1 hSt)
            have hR := Ext.block (hz1.trans hxt) HB0.out.2.2
            obtain ⟨wc, hwc, hrc, hcc, hsc⟩ := vd_set hR (.int .i64 cd) ((.slice os l.length cs)) (.int .i64 z.kind) (.int .i64 z.src) (.int .i64 z.dst) ((.slice p0 m0 d0)) (.int .i64 z.pi) (.int .i64 z.hi) (.int .i64 z.beta) (.int .i64 z.rid) (.int .i64 z.seq) ((.slice p1 m1 d1))
            have HOW := Lib.hid (Trc.own_kept OT.out hcc (fun b hb e => by have h1 := hb.1; omega))
            have HXX := Lib.hid (((hx0.trans hz1).trans hxt).chg1 hcc (by omega))
            have HWC := Lib.hid hwc
            have HRC := Lib.hid hrc
            have hsz2 : wt.heap.size = wc.heap.size := by rw [hsc]
            have hRF := fun o => fr_of hR o
            have gr0 := hRF 0
            have gr1 := hRF 1
            have gr2 := hRF 2
            have gr3 := hRF 3
            have gr4 := hRF 4
            have gr5 := hRF 5
            have gr6 := hRF 6
            have gr7 := hRF 7
            have gr8 := hRF 8
            have gr9 := hRF 9
            have gr10 := hRF 10
            have gr11 := hRF 11
            clear hRF hR  hwc hrc hcc hsc
            have cf41 := blk2 (Ext.block (hz1.trans hxt) HB0.out.1)
            have cf42 := blk10 (Ext.block (hz1.trans hxt) HB0.out.2.1)
            have cf43 := blk12 (Ext.block (hz1.trans hxt) HB0.out.2.2)
            have cf44 := blk12 HBT.out
            have cf45 := blk12 HBW.out
            go_wp2_with fail
            rw [← HWC.out]
            clear gr0 gr1 gr2 gr3 gr4 gr5 gr6 gr7 gr8 gr9 gr10 gr11 cf41 cf42 cf43 cf44 cf45
            have cc := blk12 HRC.out
            refine bodyPost_ret (v := .agg #[.int .i64 cd, (.slice os l.length cs), .int .i64 z.kind, .int .i64 z.src, .int .i64 z.dst, (.slice p0 m0 d0), .int .i64 z.pi, .int .i64 z.hi, .int .i64 z.beta, .int .i64 z.rid, .int .i64 z.seq, (.slice p1 m1 d1)]) (by simp [results, Tryz.results9, go_sem, cc]) rfl ?_
            rw [HE.out]
            exact ⟨_, _, _, rfl, Trc.own_mono HOW.out (fun b hb => ⟨by have h1 := hb.1; omega, by have h2 := hb.2; omega⟩), HXX.out⟩
    · have k10 : ¬ (k : Int) < 30 := by omega
      have hg0 : gk = 0 := by omega
      have HE : Hid ((traverse t now dead x) = ⟨0, l, y⟩) := Lib.hid (by rw [← HTR.out, hg0]; rfl)
      have hSt : ∀ b, S0 b → (w.heap.size + 1 + 1 + 1) ≤ b ∧ b < wr.heap.size ∧ (Value.slice os l.length cs).ownBlock ≠ some b := fun b hb => ⟨(hS b hb).1, (hS b hb).2.1, (hS b hb).2.2.2⟩
      have OT := Lib.hid (Trc.own_of (cd := 0) (lo := (w.heap.size + 1 + 1 + 1)) hos hown hs1 hSt)
      have hR := Ext.block (hz1.trans hx) HB0.out.2.2
      obtain ⟨wc, hwc, hrc, hcc, hsc⟩ := vd_set hR (.int .i64 0) ((.slice os l.length cs)) (.int .i64 y.kind) (.int .i64 y.src) (.int .i64 y.dst) ((.slice o0 n0 c0)) (.int .i64 y.pi) (.int .i64 y.hi) (.int .i64 y.beta) (.int .i64 y.rid) (.int .i64 y.seq) ((.slice o1 n1 c1))
      have HOW := Lib.hid (Trc.own_kept OT.out hcc (fun b hb e => by have h1 := hb.1; omega))
      have HXX := Lib.hid (((hx0.trans hz1).trans hx).chg1 hcc (by omega))
      have HWC := Lib.hid hwc
      have HRC := Lib.hid hrc
      have hsz2 : wr.heap.size = wc.heap.size := by rw [hsc]
      have hRF := fun o => fr_of hR o
      have gr0 := hRF 0
      have gr1 := hRF 1
      have gr2 := hRF 2
      have gr3 := hRF 3
      have gr4 := hRF 4
      have gr5 := hRF 5
      have gr6 := hRF 6
      have gr7 := hRF 7
      have gr8 := hRF 8
      have gr9 := hRF 9
      have gr10 := hRF 10
      have gr11 := hRF 11
      clear hRF hR  hwc hrc hcc hsc
      have cf46 := blk2 (Ext.block (hz1.trans hx) HB0.out.1)
      have cf47 := blk10 (Ext.block (hz1.trans hx) HB0.out.2.1)
      have cf48 := blk12 (Ext.block (hz1.trans hx) HB0.out.2.2)
      have cf49 := blk12 HGB.out
      go_wp2_with fail
      rw [← HWC.out]
      clear gr0 gr1 gr2 gr3 gr4 gr5 gr6 gr7 gr8 gr9 gr10 gr11 cf46 cf47 cf48 cf49
      have cc := blk12 HRC.out
      refine bodyPost_ret (v := .agg #[.int .i64 0, (.slice os l.length cs), .int .i64 y.kind, .int .i64 y.src, .int .i64 y.dst, (.slice o0 n0 c0), .int .i64 y.pi, .int .i64 y.hi, .int .i64 y.beta, .int .i64 y.rid, .int .i64 y.seq, (.slice o1 n1 c1)]) (by simp [results, Tryz.results9, go_sem, cc]) rfl ?_
      rw [HE.out]
      exact ⟨_, _, _, rfl, Trc.own_mono HOW.out (fun b hb => ⟨by have h1 := hb.1; omega, by have h2 := hb.2; omega⟩), HXX.out⟩


def reaches (t : Topo) (now : Int) (dead : List Int) (p : Pth) : Bool := (traverse t now dead (newPkt 1 p 0 0 [])).code == 1

set_option maxRecDepth 100000 in
set_option maxHeartbeats 4000000 in
theorem i_Reaches (t : Topo) (va vk : Value) (now : Int) (dead : List Int) (vd : Value) (p : Pth) (v : Value) (w : World) (ha : RdS ASd.rep w va t.ases) (hk : RdS Lnk.rep w vk t.links) (hd : RdS Rep.int w vd dead) (r : RdS Part.rep w v p.parts) (ht : t.size ≤ 1048576) (hl : p.size ≤ 1048576) :
    Calls Tryz.prog 26 #[.agg #[va, vk], .int .i64 now, vd, .agg #[v]] w fun e w' => e = .returned (.bool (reaches t now dead p)) ∧ Ext w w' := by
  obtain ⟨o, cap, rfl, hsm⟩ := r.shape
  obtain ⟨od, cdd, rfl, _⟩ := hd.shape
  have hl2 : (newPkt 1 p 0 0 []).size ≤ 1048576 := by rw [newPkt_size]; simpa using hl
  have hx0 := ext2 w (.cells #[va, vk] 47) (.cells #[.slice o p.parts.length cap] 38)
  have HB0 := Lib.hid (al2 w (.cells #[va, vk] 47) (.cells #[.slice o p.parts.length cap] 38))
  go_enter Tryz.func26, Tryz.ntmps26
  have cf1 := blk2 HB0.out.1
  have cf2 := blk1 HB0.out.2
  go_wp2_with fail
  refine planStep (.blk [0, 1, 2, 3] (.one 4 (.one 5 (.blk [6, 7, 8] .done)))) [] (by kernel_rfl) (by kernel_rfl) ?_
  try clear cf1
  try clear cf2
  have cf3 := blk2 (Ext.block ((Ext.refl _).drew) HB0.out.1)
  have cf4 := blk1 (Ext.block ((Ext.refl _).drew) HB0.out.2)
  refine blkStep (fun K HK => ?_)
  simp only [pick, List.filterMap_cons, List.filterMap_nil, List.getElem?_toArray, List.getElem?_cons_zero, List.getElem?_cons_succ]
  go_wp2_with fail
  refine HK.out _ _ ?_
  clear HK K
  refine oneStep (fun K HK => ?_)
  simp only [pick, List.filterMap_cons, List.filterMap_nil, List.getElem?_toArray, List.getElem?_cons_zero, List.getElem?_cons_succ]
  go_wp2_with fail
  refine (i_NewPacket 1 p _ 0 0 [] _ _ (r.ext (hx0.trans ((Ext.refl _).drew))) (OwnF.rd (hf := byteFlen) (OwnF.nil byteF 1 0 5 _)) hl (by simp)).mono ?_
  rintro e w1 ⟨u0, u1, rfl, ou, hz1⟩
  try clear cf3
  try clear cf4
  have cf5 := blk2 (Ext.block (((Ext.refl _).drew).trans hz1) HB0.out.1)
  have cf6 := blk1 (Ext.block (((Ext.refl _).drew).trans hz1) HB0.out.2)
  go_wp2_with fail
  refine HK.out _ _ hz1 ?_
  clear HK K
  refine oneStep (fun K HK => ?_)
  simp only [pick, List.filterMap_cons, List.filterMap_nil, List.getElem?_toArray, List.getElem?_cons_zero, List.getElem?_cons_succ]
  go_wp2_with fail
  refine (i_Traverse t _ _ now dead _ (newPkt 1 p 0 0 []) _ _ _ (ha.ext ((hx0.trans ((Ext.refl _).drew)).trans hz1)) (hk.ext ((hx0.trans ((Ext.refl _).drew)).trans hz1)) (hd.ext ((hx0.trans ((Ext.refl _).drew)).trans hz1)) (Pkt.own_rd0 ou) (Pkt.own_rd1 ou) ht hl2).mono ?_
  rintro e w2 ⟨x0, x1, x2, rfl, oo, hz2⟩
  generalize htr : traverse t now dead (newPkt 1 p 0 0 []) = tr at *
  have HTR := Lib.hid htr; clear htr
  obtain ⟨b0, d0, rfl, _⟩ := (Trc.own_rd0 oo).shape
  obtain ⟨b1, d1, rfl, _⟩ := (Trc.own_rd1 oo).shape
  obtain ⟨b2, d2, rfl, _⟩ := (Trc.own_rd2 oo).shape
  have hfd : ∀ w : World, (Instr.field 42 (.agg #[.int .i64 tr.code, .slice b0 tr.steps.length d0, .int .i64 tr.pkt.kind, .int .i64 tr.pkt.src, .int .i64 tr.pkt.dst, .slice b1 tr.pkt.path.parts.length d1, .int .i64 tr.pkt.pi, .int .i64 tr.pkt.hi, .int .i64 tr.pkt.beta, .int .i64 tr.pkt.rid, .int .i64 tr.pkt.seq, .slice b2 tr.pkt.pay.length d2]) 0).run Tryz.prog w = .ok (.int .i64 tr.code) w := fun _ => by kernel_rfl
  try clear cf5
  try clear cf6
  have cf7 := blk2 (Ext.block ((((Ext.refl _).drew).trans hz1).trans hz2) HB0.out.1)
  have cf8 := blk1 (Ext.block ((((Ext.refl _).drew).trans hz1).trans hz2) HB0.out.2)
  go_wp2_with fail
  refine HK.out _ _ hz2 ?_
  clear HK K
  refine blkStep (fun K HK => ?_)
  simp only [pick, List.filterMap_cons, List.filterMap_nil, List.getElem?_toArray, List.getElem?_cons_zero, List.getElem?_cons_succ]
  go_wp2_with fail
  refine HK.out _ _ ?_
  clear HK K
  refine doneStep (by kernel_rfl) ?_
  go_wp2_with fail
  go_ret
  exact ⟨ret_bool (by unfold reaches; rw [HTR.out]), (((hx0.trans ((Ext.refl _).drew)).trans hz1).trans hz2)⟩

set_option maxRecDepth 100000 in
set_option maxHeartbeats 4000000 in
theorem s_Reaches (t : Topo) (va vk : Value) (now : Int) (dead : List Int) (vd : Value) (p : Pth) (v : Value) (w : World) (ha : RdS ASd.rep w va t.ases) (hk : RdS Lnk.rep w vk t.links) (hd : RdS Rep.int w vd dead) (r : RdS Part.rep w v p.parts) (ht : t.size ≤ 1048576) (hl : p.size ≤ 1048576) :
    Calls Tryz.prog 24 #[.agg #[va, vk], .int .i64 now, vd, .agg #[v]] w fun e w' => e = .returned (.bool (reaches t now dead p)) ∧ Ext w w' := by
  obtain ⟨o, cap, rfl, hsm⟩ := r.shape
  obtain ⟨od, cdd, rfl, _⟩ := hd.shape
  have hl2 : (newPkt 1 p 0 0 []).size ≤ 1048576 := by rw [newPkt_size]; simpa using hl
  have hx0 := ext2 w (.cells #[va, vk] 47) (.cells #[.slice o p.parts.length cap] 38)
  have HB0 := Lib.hid (al2 w (.cells #[va, vk] 47) (.cells #[.slice o p.parts.length cap] 38))
  go_enter Tryz.func24, Tryz.ntmps24
  have cf1 := blk2 HB0.out.1
  have cf2 := blk1 HB0.out.2
  go_wp2_with fail
  refine planStep (.blk [0, 1, 2, 3] (.one 4 (.one 5 (.one 6 (.blk [7, 8, 9] .done))))) [] (by kernel_rfl) (by kernel_rfl) ?_
  try clear cf1
  try clear cf2
  have cf3 := blk2 (Ext.block ((Ext.refl _).drew) HB0.out.1)
  have cf4 := blk1 (Ext.block ((Ext.refl _).drew) HB0.out.2)
  refine blkStep (fun K HK => ?_)
  simp only [pick, List.filterMap_cons, List.filterMap_nil, List.getElem?_toArray, List.getElem?_cons_zero, List.getElem?_cons_succ]
  go_wp2_with fail
  refine HK.out _ _ ?_
  clear HK K
  refine oneStep (fun K HK => ?_)
  simp only [pick, List.filterMap_cons, List.filterMap_nil, List.getElem?_toArray, List.getElem?_cons_zero, List.getElem?_cons_succ]
  go_wp2_with fail
  refine HK.out _ _ ((Ext.refl _).alloc _) ?_
  clear HK K
  refine oneStep (fun K HK => ?_)
  simp only [pick, List.filterMap_cons, List.filterMap_nil, List.getElem?_toArray, List.getElem?_cons_zero, List.getElem?_cons_succ]
  go_wp2_with fail
  refine (s_NewPacket 1 p _ 0 0 [] _ _ (r.ext ((hx0.trans ((Ext.refl _).drew)).trans ((Ext.refl _).alloc _))) (by exact OwnF.rd (f := byteF) (n := 1) (base := 0) (e := 5) (hf := byteFlen) (OwnF.emptyAt (by simp) (Nat.zero_le _))) hl (by simp)).mono ?_
  rintro e w1 ⟨u0, u1, rfl, ou, hz1⟩
  try clear cf3
  try clear cf4
  have cf5 := blk2 (Ext.block ((((Ext.refl _).drew).trans ((Ext.refl _).alloc _)).trans hz1) HB0.out.1)
  have cf6 := blk1 (Ext.block ((((Ext.refl _).drew).trans ((Ext.refl _).alloc _)).trans hz1) HB0.out.2)
  go_wp2_with fail
  refine HK.out _ _ hz1 ?_
  clear HK K
  refine oneStep (fun K HK => ?_)
  simp only [pick, List.filterMap_cons, List.filterMap_nil, List.getElem?_toArray, List.getElem?_cons_zero, List.getElem?_cons_succ]
  go_wp2_with fail
  refine (s_Traverse t _ _ now dead _ (newPkt 1 p 0 0 []) _ _ _ (ha.ext (((hx0.trans ((Ext.refl _).drew)).trans ((Ext.refl _).alloc _)).trans hz1)) (hk.ext (((hx0.trans ((Ext.refl _).drew)).trans ((Ext.refl _).alloc _)).trans hz1)) (hd.ext (((hx0.trans ((Ext.refl _).drew)).trans ((Ext.refl _).alloc _)).trans hz1)) (Pkt.own_rd0 ou) (Pkt.own_rd1 ou) ht hl2).mono ?_
  rintro e w2 ⟨x0, x1, x2, rfl, oo, hz2⟩
  generalize htr : traverse t now dead (newPkt 1 p 0 0 []) = tr at *
  have HTR := Lib.hid htr; clear htr
  obtain ⟨b0, d0, rfl, _⟩ := (Trc.own_rd0 oo).shape
  obtain ⟨b1, d1, rfl, _⟩ := (Trc.own_rd1 oo).shape
  obtain ⟨b2, d2, rfl, _⟩ := (Trc.own_rd2 oo).shape
  have hfd : ∀ w : World, (Instr.field 42 (.agg #[.int .i64 tr.code, .slice b0 tr.steps.length d0, .int .i64 tr.pkt.kind, .int .i64 tr.pkt.src, .int .i64 tr.pkt.dst, .slice b1 tr.pkt.path.parts.length d1, .int .i64 tr.pkt.pi, .int .i64 tr.pkt.hi, .int .i64 tr.pkt.beta, .int .i64 tr.pkt.rid, .int .i64 tr.pkt.seq, .slice b2 tr.pkt.pay.length d2]) 0).run Tryz.prog w = .ok (.int .i64 tr.code) w := fun _ => by kernel_rfl
  try clear cf5
  try clear cf6
  have cf7 := blk2 (Ext.block (((((Ext.refl _).drew).trans ((Ext.refl _).alloc _)).trans hz1).trans hz2) HB0.out.1)
  have cf8 := blk1 (Ext.block (((((Ext.refl _).drew).trans ((Ext.refl _).alloc _)).trans hz1).trans hz2) HB0.out.2)
  go_wp2_with fail
  refine HK.out _ _ hz2 ?_
  clear HK K
  refine blkStep (fun K HK => ?_)
  simp only [pick, List.filterMap_cons, List.filterMap_nil, List.getElem?_toArray, List.getElem?_cons_zero, List.getElem?_cons_succ]
  go_wp2_with fail
  refine HK.out _ _ ?_
  clear HK K
  refine doneStep (by kernel_rfl) ?_
  go_wp2_with fail
  go_ret
  exact ⟨ret_bool (by unfold reaches; rw [HTR.out]), ((((hx0.trans ((Ext.refl _).drew)).trans ((Ext.refl _).alloc _)).trans hz1).trans hz2)⟩


theorem Pth.clen (x : Pth) (v : Value) : (x.c v).length = 1 := rfl
theorem Pth.at {w : World} {o : Option Addr} {m cap : Nat} {l : List Pth} (h : RdS Pth.rep w (.slice o m cap) l) (k : Nat) (hk : k < l.length) :
    ∃ b off oh ch, o = some ⟨b, off, none⟩ ∧ w.cell? ⟨b, off + k, none⟩ = some (.slice oh l[k].parts.length ch) ∧ RdS Part.rep w (.slice oh l[k].parts.length ch) l[k].parts := by
  obtain ⟨o', cap', hv, h1, h2, hn, h3⟩ := h
  obtain ⟨b, off, cs, ho, hc, v, rfl, hr⟩ := h3 k hk
  cases hv
  obtain ⟨oh, ch, rfl, _⟩ := hr.shape
  have := hc 0 _ rfl
  refine ⟨b, off, oh, ch, ho, ?_, hr⟩
  have e : Pth.rep.cells = 1 := rfl
  simpa [e] using this
def pszN (l : List Pth) : Nat := (l.map Pth.size).sum
def pthsN (l : List Pth) : Nat := l.length + pszN l
theorem pszN_snoc {l : List Pth} {k : Nat} (hk : k < l.length) : pszN (l.take (k + 1)) = pszN (l.take k) + l[k].size := by
  unfold pszN
  rw [List.take_succ_eq_append_getElem hk, List.map_append, List.sum_append]
  simp only [List.map_cons, List.map_nil, List.sum_cons, List.sum_nil]; omega
theorem pszN_take_le (l : List Pth) (k : Nat) : pszN (l.take k) ≤ pszN l := by
  unfold pszN
  have h := List.take_append_drop k l
  have h2 : (l.map Pth.size).sum = ((l.take k ++ l.drop k).map Pth.size).sum := by rw [h]
  rw [List.map_append, List.sum_append] at h2
  omega
theorem pszN_le {l : List Pth} {k : Nat} (hk : k < l.length) : l[k].size ≤ pszN l := by
  have h1 := pszN_snoc hk
  have h2 := pszN_take_le l (k + 1)
  omega
theorem Pth.opensS : Opens Tryz.prog 71 Pth.rep.slice (fun l => ∀ x ∈ l, Pth.ok x) := opens_slice Tryz.underlying71 (by kernel_rfl) (by decide) Pth.opens
theorem Tryz.infoPth : (Tryz.prog.info? 38).map (fun i => (i.zero, i.size, i.bytes)) = some (some (.agg #[.slice none 0 0]), 1, 24) := by kernel_rfl
theorem elemPth : Nonempty (Elem Tryz.prog 74 38 1 24) := Elem.mk' Tryz.underlying74 Tryz.infoPth rfl (by decide)
def Pth.ownS : Own Pth := Own.nest 1 Pth.c Pth.clen (·.parts) 38 Part.own
theorem Pth.ord {S : Nat → Prop} {w : World} {v : Value} {l : List Pth} (h : Pth.ownS.own S w v l) : RdS Pth.rep w v l := Pth.ownS.rd h
set_option maxHeartbeats 400000 in
theorem l_szPathS (l : List Pth) (v : Value) (left : Int) (w : World) (hv : RdS Pth.rep w v l) (h0 : 0 ≤ left) (h1 : left ≤ 1048576) :
    Calls Tryz.prog 33 #[v, .int .i64 left] w fun e w' => e = .returned (.int .i64 (szL left (pthsN l))) ∧ Ext w w' := by
  unfold pthsN
  obtain ⟨o, cap, rfl, hsm⟩ := hv.shape
  by_cases hlt0 : left - l.length < 0
  · have hz : szL left (l.length + pszN l) = -1 := if_pos (by omega)
    have HZ := Lib.hid hz; clear hz
    go_enter Tryz.func33, Tryz.ntmps33
    go_wp2
    go_ret
    exact ⟨ret_int HZ.out.symm, Ext.refl _⟩
  · go_enter Tryz.func33, Tryz.ntmps33
    go_wp2
    go_loopw [1, 5] (fun t i wr => ∃ (k : Nat), k ≤ l.length ∧ i = .int .i64 k ∧ t = .int .i64 (left - l.length - pszN (l.take k)) ∧ 0 ≤ left - l.length - pszN (l.take k) ∧ Ext w wr) (fun _ i _ => l.length - (intOf i).toNat)
    case atStart => exact ⟨0, Nat.zero_le _, rfl, by simp [pszN], by simp [pszN]; omega, Ext.refl _⟩
    case round =>
      obtain ⟨k, hk, rfl, rfl, hle, hx⟩ := hrel
      by_cases hlt : k < l.length
      · obtain ⟨b, off, oh, ch, rfl, hc, hr⟩ := Pth.at (hv.ext hx) k hlt
        have hsn := pszN_snoc hlt
        have htl := pszN_take_le l (k + 1)
        go_wp2_with fail
        refine (l_szPath l[k] _ _ _ hr hle (by omega)).mono ?_
        rintro e w1 ⟨rfl, k1⟩
        have hx1 := hx.trans k1
        by_cases hlt2 : left - l.length - pszN (l.take k) - l[k].size < 0
        · have hz1 : szL (left - l.length - pszN (l.take k)) l[k].size = -1 := if_pos hlt2
          have hz : szL left (l.length + pszN l) = -1 := if_pos (by omega)
          rw [hz1]
          have HZ := Lib.hid hz; clear hz hz1
          have HS := Lib.hid hsn; clear hsn
          go_wp2_with fail
          go_ret
          exact ⟨ret_int HZ.out.symm, hx1⟩
        · have hz1 : szL (left - l.length - pszN (l.take k)) l[k].size = left - l.length - pszN (l.take (k + 1)) := by
            rw [show szL (left - l.length - pszN (l.take k)) l[k].size = left - l.length - pszN (l.take k) - l[k].size from if_neg hlt2]; omega
          have hp : 0 ≤ left - l.length - pszN (l.take (k + 1)) := by omega
          rw [hz1]
          clear hz1 hsn hlt2 htl
          go_wp2_with fail
          go_roundw
          case rel => exact ⟨k + 1, by omega, by go_num, rfl, hp, hx1⟩
          case measure => simp [intOf]; omega
      · have hkl : l.take k = l := List.take_of_length_le (by omega)
        rw [hkl] at hle ⊢
        have hz : szL left (l.length + pszN l) = left - l.length - pszN l := by
          unfold szL; rw [if_neg (by omega)]; omega
        have HZ := Lib.hid hz; clear hz hkl
        go_wp2
        go_ret
        exact ⟨ret_int HZ.out.symm, hx⟩
set_option maxHeartbeats 1000000 in
theorem l_toPathS (l : List Pth) (v : Value) (w : World) (hv : RdS Pth.rep w v l) (hl : pthsN l ≤ 1048576) :
    Calls Tryz.prog 35 #[v] w fun e w' => ∃ v', e = .returned v' ∧ Pth.ownS.own (rng w.heap.size w'.heap.size) w' v' l ∧ Ext w w' := by
  unfold pthsN at hl
  obtain ⟨o, cap, rfl, hsm⟩ := hv.shape
  obtain ⟨i0, hi, hz0, hz1, hz2⟩ := info_parts Tryz.infoPth
  have Hi := Lib.hid hi; clear hi
  go_enter Tryz.func35, Tryz.ntmps35
  go_wp2_with (with_reducible refine wpList_make_full _ rfl _ _ 74 rfl w.heap.size 38 i0 _ 1 Tryz.underlying74 Hi.out hz0 hz1 .i64 .i64 _ _ l.length rfl rfl rfl rfl ?_ ?_ ?_ ?_)
  · rw [hz2]; omega
  · unfold maxLen; omega
  · exact Nat.le_refl _
  intro w1 hown hg
  have hx1 : Ext w w1 := (Ext.refl w).grownNone hg
  have hown1 : Pth.ownS.own (rng w.heap.size w1.heap.size) w1 (.slice (some ⟨w.heap.size, 0, none⟩) l.length l.length) (List.replicate l.length ⟨[]⟩) := by
    have := madeCells_flat (n := 1) (f := capF Pth.c) (fun _ => rfl) (by decide) ⟨⟨[]⟩, .slice none 0 0, noB⟩ l.length
    have h2 : OwnF (capF Pth.c) 1 w.heap.size 38 w1 (.slice (some ⟨w.heap.size, 0, none⟩) l.length l.length) (List.replicate l.length ⟨⟨[]⟩, .slice none 0 0, noB⟩) := by
      unfold OwnF
      rw [← this, List.length_replicate]
      simpa [capF, Pth.c] using hown
    exact nest_zero (c := Pth.c) (hc := Pth.clen) (sub := (·.parts)) (I := Part.own) (⟨[]⟩ : Pth) rfl h2.to0 (rng w.heap.size w1.heap.size) (show rng _ _ _ from ⟨Nat.le_refl _, (h2.block _ rfl).2⟩)
  clear hown hg
  go_wp2
  go_loopw [4] (fun i wr => ∃ (k : Nat) (xs : List Pth), k ≤ l.length ∧ i = .int .i64 k ∧ xs.length = l.length ∧ Pth.ownS.own (rng w.heap.size wr.heap.size) wr (.slice (some ⟨w.heap.size, 0, none⟩) l.length l.length) xs ∧ xs.take k = l.take k ∧ Ext w wr) (fun i _ => l.length - (intOf i).toNat)
  case atStart => exact ⟨0, _, Nat.zero_le _, rfl, by simp, hown1, rfl, hx1⟩
  case round =>
    obtain ⟨k, xs, hk, rfl, hxl, hown, htk, hx⟩ := hrel
    have Htk := Lib.hid htk; clear htk
    have Hxl := Lib.hid hxl; clear hxl
    by_cases hlt : k < l.length
    · obtain ⟨b, off, oh, ch, rfl, hcc, hr⟩ := Pth.at (hv.ext hx) k hlt
      have hle := pszN_le hlt
      go_wp2_with fail
      refine (l_toPath l[k] _ _ hr (by omega)).mono ?_
      rintro e w2 ⟨u2, rfl, o2, h2⟩
      obtain ⟨ou, cu, rfl, _⟩ := (Part.ord o2).shape
      have hx2 := hx.trans h2
      have hown2 := Own.ext hown h2
      obtain ⟨hv3, T3, hc3, _⟩ := nest_at hown2 k (by rw [Hxl.out]; exact hlt)
      have d0 := hc3 0 _ rfl
      simp only [Nat.mul_one, Nat.add_zero] at d0
      have f0 := nest_free hown2 k
      have key := fun (w3 : World) => nest_put (w2 := w3) (S' := rng w.heap.size w2.heap.size) hown k (by rw [Hxl.out]; exact hlt) l[k] (.slice ou l[k].parts.length cu) h2 o2 (fun b hb => ⟨⟨Nat.le_trans hx.size hb.1, hb.2⟩, hb.1, hb.2⟩) (fun b hb => ⟨hb.1, Nat.lt_of_lt_of_le hb.2 h2.size⟩)
      have key2 : ∃ w3, w3 = w2.setCell ⟨w.heap.size, k, none⟩ (.slice ou l[k].parts.length cu) ∧ Pth.ownS.own (rng w.heap.size w3.heap.size) w3 (.slice (some ⟨w.heap.size, 0, none⟩) l.length l.length) (xs.set k l[k]) ∧ Ext w w3 := by
        have hrow := fun (qs : List (Cap Pth)) (hq : qs.map (·.dat) = xs) (ho : OwnF (capF Pth.c) 1 0 38 w2 (.slice (some ⟨w.heap.size, 0, none⟩) l.length l.length) qs) => OwnF.put1 (f := capF Pth.c) (fun _ => rfl) ho k (by rw [← List.length_map (f := fun q : Cap Pth => q.dat), hq, Hxl.out]; exact hlt) 0 (by decide) (.slice ou l[k].parts.length cu) ⟨l[k], .slice ou l[k].parts.length cu, rng wr.heap.size w2.heap.size⟩ rfl
        simp only [Nat.mul_one, Nat.add_zero] at hrow
        have hg3 : w2.grownBy (w2.setCell ⟨w.heap.size, k, none⟩ (.slice ou l[k].parts.length cu)) (some w.heap.size) := by
          obtain ⟨qs, hq, ho, _⟩ := hown2
          exact (hrow qs hq ho).2
        exact ⟨_, rfl, Pth.ownS.mono (key _ hg3 (fun qs hq ho => (hrow qs hq ho).1)) (fun b hb => ⟨hb.1, Nat.lt_of_lt_of_le hb.2 hg3.size⟩), hx2.grown hg3 (fun _ e => by cases e; exact Nat.le_refl _)⟩
      obtain ⟨w3, hw3, ho3, hx3⟩ := key2
      have HW3 := Lib.hid hw3; clear hw3 key hc3 hown hown2
      go_wp2_with fail
      rw [← HW3.out]
      go_roundw
      case rel => exact ⟨k + 1, _, by omega, by go_num, by simpa using Hxl.out, ho3, take_set_snoc Htk.out Hxl.out hlt, hx3⟩
      case measure => simp [intOf]; omega
    · go_wp2
      go_ret
      refine ⟨_, rfl, ?_, hx⟩
      obtain rfl : xs = l := by
        have := Htk.out
        rwa [List.take_of_length_le (by rw [Hxl.out]; omega), List.take_of_length_le (by omega)] at this
      exact hown
set_option maxRecDepth 100000 in
set_option maxHeartbeats 1000000 in
theorem l_eqPathS (a b : List Pth) (va vb : Value) (w : World) (ha : RdS Pth.rep w va a) (hb : RdS Pth.rep w vb b) :
    Calls Tryz.prog 37 #[va, vb] w fun e w' => e = .returned (.bool (decide (a = b))) ∧ Ext w w' := by
  obtain ⟨oa, ca, rfl, hsa⟩ := ha.shape
  obtain ⟨ob, cb, rfl, hsb⟩ := hb.shape
  by_cases hne : a.length = b.length
  · have Hne := Lib.hid hne
    have t1 : ((a.length : Int) != (b.length : Int)) = false := by simp [hne]
    clear hne
    go_enter Tryz.func37, Tryz.ntmps37
    go_wp2
    go_loopw [5] (fun i wr => ∃ (k : Nat), k ≤ a.length ∧ i = .int .i64 k ∧ a.take k = b.take k ∧ Ext w wr) (fun i _ => a.length - (intOf i).toNat)
    case atStart => exact ⟨0, Nat.zero_le _, rfl, rfl, Ext.refl _⟩
    case round =>
      obtain ⟨k, hk, rfl, htk, hx⟩ := hrel
      have Htk := Lib.hid htk; clear htk
      by_cases hlt : k < a.length
      · have hlb : k < b.length := by rw [← Hne.out]; exact hlt
        obtain ⟨b1, off1, oh1, ch1, rfl, hc1, hr1⟩ := Pth.at (ha.ext hx) k hlt
        obtain ⟨b2, off2, oh2, ch2, rfl, hc2, hr2⟩ := Pth.at (hb.ext hx) k hlb
        go_wp2_with fail
        refine planStep (.blk [0, 1, 2, 3, 4, 5, 6, 7] (.one 8 (.blk [9] .done))) [] (by kernel_rfl) (by kernel_rfl) ?_
        refine blkStep (fun K HK => ?_)
        simp only [pick, List.filterMap_cons, List.filterMap_nil, List.getElem?_toArray, List.getElem?_cons_zero, List.getElem?_cons_succ]
        go_wp2_with fail
        refine HK.out _ _ ?_
        clear HK K
        refine oneStep (fun K HK => ?_)
        simp only [pick, List.filterMap_cons, List.filterMap_nil, List.getElem?_toArray, List.getElem?_cons_zero, List.getElem?_cons_succ]
        go_wp2_with fail
        refine (l_eqPath a[k] b[k] _ _ _ (hr1.ext (Ext.refl _).drew) (hr2.ext (Ext.refl _).drew)).mono ?_
        rintro e w1 ⟨rfl, h1⟩
        have hx1 := hx.drew.trans h1
        cases hd : decide (a[k] = b[k])
        · have hab : decide (a = b) = false := by
            rw [decide_eq_false_iff_not]; rintro rfl; simp at hd
          have Hab := Lib.hid hab; clear hab
          go_wp2_with fail
          refine HK.out _ _ h1 ?_
          clear HK K
          refine blkStep (fun K HK => ?_)
          simp only [pick, List.filterMap_cons, List.filterMap_nil, List.getElem?_toArray, List.getElem?_cons_zero, List.getElem?_cons_succ]
          go_wp2_with fail
          refine HK.out _ _ ?_
          clear HK K
          refine doneStep (by kernel_rfl) ?_
          go_wp2_with fail
          go_ret
          exact ⟨ret_bool Hab.out.symm, hx1⟩
        · have hd' : a[k] = b[k] := of_decide_eq_true hd
          have HD := Lib.hid hd'; clear hd'
          go_wp2_with fail
          refine HK.out _ _ h1 ?_
          clear HK K
          refine blkStep (fun K HK => ?_)
          simp only [pick, List.filterMap_cons, List.filterMap_nil, List.getElem?_toArray, List.getElem?_cons_zero, List.getElem?_cons_succ]
          go_wp2_with fail
          refine HK.out _ _ ?_
          clear HK K
          refine doneStep (by kernel_rfl) ?_
          go_wp2_with fail
          go_roundw
          case rel => exact ⟨k + 1, by omega, by go_num, take_snoc2 Htk.out hlt hlb HD.out, hx1⟩
          case measure => simp [intOf]; omega
      · have hab : decide (a = b) = true := by
          have := Htk.out
          rw [List.take_of_length_le (by omega), List.take_of_length_le (by rw [← Hne.out]; omega)] at this
          simp [this]
        have Hab := Lib.hid hab; clear hab
        go_wp2
        go_ret
        exact ⟨ret_bool Hab.out.symm, hx⟩
  · have t1 : ((a.length : Int) != (b.length : Int)) = true := by simp [bne_iff_ne]; omega
    have hab : decide (a = b) = false := by
      rw [decide_eq_false_iff_not]; rintro rfl; exact hne rfl
    have Hab := Lib.hid hab; clear hab
    clear hne
    go_enter Tryz.func37, Tryz.ntmps37
    go_wp2
    go_ret
    exact ⟨ret_bool Hab.out.symm, Ext.refl _⟩
def markPths (k : Int) : List Pth → List Pth
  | [] => []
  | x :: l => ⟨markParts k x.parts⟩ :: markPths (k + markN x.parts) l
def markPN : List Pth → Int
  | [] => 0
  | x :: l => markN x.parts + markPN l
theorem markN_nn (l : List Part) : 0 ≤ markN l := by unfold markN; omega
theorem markPN_nn (l : List Pth) : 0 ≤ markPN l := by
  induction l with
  | nil => exact Int.le_refl _
  | cons x l ih => have := markN_nn x.parts; unfold markPN; omega
theorem markPN_app (a b : List Pth) : markPN (a ++ b) = markPN a + markPN b := by
  induction a with
  | nil => simp [markPN]
  | cons x a ih => simp only [List.cons_append, markPN, ih]; omega
theorem markPN_snoc {l : List Pth} {k : Nat} (hk : k < l.length) : markPN (l.take (k + 1)) = markPN (l.take k) + markN l[k].parts := by
  rw [List.take_succ_eq_append_getElem hk, markPN_app]
  simp [markPN]
theorem markPN_take_le (l : List Pth) (k : Nat) : markPN (l.take k) ≤ markPN l := by
  have h : markPN l = markPN (l.take k ++ l.drop k) := by rw [List.take_append_drop]
  rw [markPN_app] at h
  have := markPN_nn (l.drop k)
  omega
theorem markPN_le (l : List Pth) : markPN l ≤ 5 * pthsN l := by
  induction l with
  | nil => decide
  | cons x l ih =>
    have e : pthsN (x :: l) = 1 + x.size + pthsN l := by unfold pthsN pszN; simp; omega
    rw [e]
    unfold markPN markN Pth.size
    omega
theorem markPths_len (k : Int) (l : List Pth) : (markPths k l).length = l.length := by
  induction l generalizing k with
  | nil => rfl
  | cons x l ih => simp [markPths, ih]
theorem markPths_at (k : Int) (l : List Pth) (j : Nat) (hj : j < l.length) : (markPths k l)[j]'(by rw [markPths_len]; exact hj) = ⟨markParts (k + markPN (l.take j)) l[j].parts⟩ := by
  induction l generalizing k j with
  | nil => simp at hj
  | cons x l ih =>
    cases j with
    | zero => simp [markPths, markPN]
    | succ j =>
      have h := ih (k + markN x.parts) j (by simpa using hj)
      have e1 : k + markN x.parts + markPN (l.take j) = k + markPN ((x :: l).take (j + 1)) := by
        rw [List.take_succ_cons, markPN]; omega
      rw [e1] at h
      simpa [markPths] using h
set_option maxHeartbeats 1000000 in
theorem l_markPathS (l : List Pth) (v : Value) (k : Int) (S : Nat → Prop) (w : World) (o : Pth.ownS.own S w v l) (h0 : 0 ≤ k) (h1 : k + markPN l ≤ 4611686018427387904) :
    Calls Tryz.prog 38 #[v, .int .i64 k] w fun e w' => e = .returned (.int .i64 (k + markPN l)) ∧ Pth.ownS.own S w' v (markPths k l) ∧ Chg S w w' := by
  by_cases hl : 0 < l.length
  · have hsm := (Pth.ord o).small
    obtain ⟨g, cap, rfl, hSg, hgs⟩ := nest_shape o hl
    go_enter Tryz.func38, Tryz.ntmps38
    go_wp2
    go_loopg [1, 5] l.length (fun gk kk i wr => ∃ (j : Nat) (xs : List Pth), gk + j = l.length ∧ i = .int .i64 j ∧ kk = .int .i64 (k + markPN (l.take j)) ∧ xs.length = l.length ∧ Pth.ownS.own S wr (.slice (some ⟨g, 0, none⟩) l.length cap) xs ∧ xs.take j = (markPths k l).take j ∧ xs.drop j = l.drop j ∧ Chg S w wr)
    case atStart => exact ⟨0, l, rfl, rfl, by simp [markPN], rfl, o, rfl, rfl, Chg.refl _ _⟩
    case round =>
      obtain ⟨j, xs, hgk, rfl, rfl, hxl, hown, htk, hdr, hch⟩ := hrel
      have Htk := Lib.hid htk; clear htk
      have Hxl := Lib.hid hxl; clear hxl
      have Hdr := Lib.hid hdr; clear hdr
      have hht := markPN_take_le l (j + 1)
      have hnn := markPN_nn (l.take j)
      by_cases hlt : j < l.length
      · have hsn := markPN_snoc hlt
        have hmn := markN_nn l[j].parts
        have hjx : j < xs.length := by rw [Hxl.out]; exact hlt
        have hxj := drop_getM Hdr.out hjx hlt
        have hg' : gk - 1 + (j + 1) = l.length ∧ gk - 1 < gk := by omega
        have HG := Lib.hid hg'; clear hg' hgk
        have hbd : k + markPN (l.take j) + markN l[j].parts ≤ 4611686018427387904 := by omega
        have hnk : k + markPN (l.take (j + 1)) = k + markPN (l.take j) + markN l[j].parts := by omega
        have HNK := Lib.hid hnk; clear hnk hsn hht
        have hma := markPths_at k l j hlt
        have HMA := Lib.hid hma; clear hma
        have hk0 : 0 ≤ k + markPN (l.take j) := by omega
        generalize k + markPN (l.take j) = kj at *
        obtain ⟨hv, T, hcells, hin, hT, hnext⟩ := nest_at hown j hjx
        have hsub : Part.own.own T wr hv l[j].parts := by rw [← hxj]; exact hin
        obtain ⟨oh, ch, rfl, _⟩ := (Part.ord hsub).shape
        have d0 := hcells 0 _ rfl
        simp only [Nat.mul_one, Nat.add_zero] at d0
        have HNX := Lib.hid hnext; have HIN := Lib.hid hsub
        clear hin hnext hcells hown hsub hxj
        go_wp2_with fail
        refine (l_markPathPartS l[j].parts _ kj T _ HIN.out hk0 hbd).mono ?_
        rintro e w4 ⟨rfl, o4, c4⟩
        have hfin := HNX.out w4 ⟨markParts kj l[j].parts⟩ c4 o4 rfl
        have hch4 := hch.trans (c4.mono (fun b hb => (hT b hb).1))
        clear hT
        rw [← HNK.out]
        go_wp2_with fail
        go_roundg (gk - 1)
        case measure => exact HG.out.2
        case rel => exact ⟨j + 1, _, HG.out.1, by go_num, rfl, by simpa using Hxl.out, hfin, take_snocM Htk.out hjx (by rw [markPths_len]; exact hlt) _ HMA.out, drop_snocM Hdr.out _, hch4⟩
      · obtain rfl : j = l.length := by omega
        have hxs : xs = markPths k l := by
          have := Htk.out
          rwa [List.take_of_length_le (by rw [Hxl.out]; exact Nat.le_refl _), List.take_of_length_le (by rw [markPths_len]; exact Nat.le_refl _)] at this
        subst hxs
        rw [List.take_length]
        go_wp2
        go_ret
        exact ⟨rfl, hown, hch⟩
  · have hl0 : l = [] := List.eq_nil_of_length_eq_zero (by omega)
    subst hl0
    obtain ⟨oo, cap, rfl, _⟩ := (Pth.ord o).shape
    go_enter Tryz.func38, Tryz.ntmps38
    go_wp2
    refine wp_loop_rounds 1 ?_; rw [rounds_succ]
    go_wp2
    go_ret
    exact ⟨by simp [markPN], o, Chg.refl _ _⟩

def wpIdx (f : Pth → Bool) (l : List Pth) : Nat → List Int
  | 0 => []
  | k + 1 => (match l[k]? with | some p => if f p then wpIdx f l k ++ [(k : Int)] else wpIdx f l k | none => wpIdx f l k)
def workPaths (t : Topo) (now : Int) (dead : List Int) (l : List Pth) : List Int := wpIdx (reaches t now dead) l l.length
theorem wpIdx_yes {f : Pth → Bool} {l : List Pth} {k : Nat} (hk : k < l.length) (h : f l[k] = true) : wpIdx f l (k + 1) = wpIdx f l k ++ [(k : Int)] := by simp [wpIdx, hk, h]
theorem wpIdx_no {f : Pth → Bool} {l : List Pth} {k : Nat} (hk : k < l.length) (h : f l[k] = false) : wpIdx f l (k + 1) = wpIdx f l k := by simp [wpIdx, hk, h]
theorem wpIdx_len (f : Pth → Bool) (l : List Pth) : ∀ k : Nat, (wpIdx f l k).length ≤ k
  | 0 => Nat.le_refl _
  | k + 1 => by
    have h := wpIdx_len f l k
    unfold wpIdx
    split
    · split
      · simp; omega
      · omega
    · omega

set_option maxRecDepth 100000 in
set_option maxHeartbeats 4000000 in
theorem i_WorkingPaths (t : Topo) (va vk : Value) (now : Int) (dead : List Int) (vd : Value) (ps : List Pth) (v : Value) (w : World) (ha : RdS ASd.rep w va t.ases) (hk : RdS Lnk.rep w vk t.links) (hd : RdS Rep.int w vd dead) (rp : RdS Pth.rep w v ps) (ht : t.size ≤ 1048576) (hl : pthsN ps ≤ 1048576) :
    Calls Tryz.prog 36 #[.agg #[va, vk], .int .i64 now, vd, v] w fun e w' => ∃ v', e = .returned v' ∧ OwnF intF 1 w.heap.size 3 w' v' (workPaths t now dead ps) ∧ Ext w w' := by
  obtain ⟨E⟩ := elemInt
  obtain ⟨o, cap, rfl, hsm⟩ := rp.shape
  obtain ⟨od, cdd, rfl, _⟩ := hd.shape
  unfold pthsN at hl
  have HTI := Lib.hid (show workPaths t now dead ps = wpIdx (reaches t now dead) ps ps.length from rfl)
  have hx0 : Ext w (w.alloc (.cells #[va, vk] 47)) := (Ext.refl _).alloc _
  have HB0 := Lib.hid (blk_new w (.cells #[va, vk] 47))
  go_enter Tryz.func36, Tryz.ntmps36
  have cf1 := blk2 HB0.out
  go_wp2_with fail
  clear cf1
  go_loopg [9, 14] ps.length (fun gk out i wr => ∃ (k : Nat) (xs : List Int), gk + k = ps.length ∧ i = .int .i64 k ∧ Hid (xs = wpIdx (reaches t now dead) ps k) ∧ xs.length ≤ k ∧ OwnF intF 1 (w.heap.size + 1) 3 wr out xs ∧ Ext (w.alloc (.cells #[va, vk] 47)) wr)
  case atStart => exact ⟨0, [], rfl, rfl, Lib.hid rfl, Nat.le_refl _, OwnF.nil _ _ _ _ _, Ext.refl _⟩
  case round =>
    obtain ⟨k, xs, hgk, rfl, HX, hxl, hown, hx⟩ := hrel
    by_cases hlt : k < ps.length
    · obtain ⟨b, off, oh, ch, rfl, hc, hr⟩ := Pth.at ((rp.ext (hx0.trans hx))) k hlt
      have hle := pszN_le hlt
      have hg0 : gk - 1 + (k + 1) = ps.length ∧ gk - 1 < gk := by omega
      have HG := Lib.hid hg0; clear hg0 hgk
      have hxb : Ext wr (wr.alloc (.cells #[.slice oh ps[k].parts.length ch] 38)) := (Ext.refl _).alloc _
      have HBP := Lib.hid (blk_new wr (.cells #[.slice oh ps[k].parts.length ch] 38))
      have cf2 := blk2 (Ext.block (hx.trans hxb) HB0.out)
      have cf3 := blk1 HBP.out
      go_wp2_with fail
      refine (i_Reaches t _ _ now dead _ ps[k] _ _ (ha.ext ((hx0.trans hx).trans hxb)) (hk.ext ((hx0.trans hx).trans hxb)) (hd.ext ((hx0.trans hx).trans hxb)) (hr.ext hxb) ht (by omega)).mono ?_
      rintro e w1 ⟨rfl, hz1⟩
      cases hre : reaches t now dead ps[k]
      case true =>
        have HN := Lib.hid (wpIdx_yes hlt hre)
        have hb1 := OwnF.ext hown (hxb.trans hz1)
        go_wp2_with (at_builtin; refine app1 E intFlen intOne rfl _ _ rfl (k : Int) rfl (OwnF.ext hb1 ((Ext.refl _).alloc _)) rfl (by exact blk_list (intF (k : Int)) (blk_new w1 _)) (by omega) (by unfold maxLen; omega) (by have h1 := ((hx.trans hxb).trans hz1).size; simp at h1 ⊢; omega) ?_)
        intro v' w' ho' hg'
        have hx' := (((hx.trans hxb).trans hz1).alloc (.cells #[.int .i64 k] 3)).app hg' hb1 (by simp)
        clear hg'
        go_wp2_with fail
        go_roundg (gk - 1)
        case measure => exact HG.out.2
        case rel => exact ⟨k + 1, _, HG.out.1, by go_num, Lib.hid (by rw [HN.out, ← HX.out]), by simp; omega, ho', hx'⟩
      case false =>
        have HN := Lib.hid (wpIdx_no hlt hre)
        go_wp2_with fail
        go_roundg (gk - 1)
        case measure => exact HG.out.2
        case rel => exact ⟨k + 1, _, HG.out.1, by go_num, Lib.hid (by rw [HN.out, ← HX.out]), by omega, hown.ext (hxb.trans hz1), ((hx.trans hxb).trans hz1)⟩
    · have HXS := Lib.hid (show xs = workPaths t now dead ps by have h := HX.out; rw [show k = ps.length from by omega] at h; exact h)
      go_wp2_with fail
      go_ret
      rw [← HXS.out]
      exact ⟨_, rfl, hown.mono (Nat.le_succ _), (hx0.trans hx)⟩

set_option maxRecDepth 100000 in
set_option maxHeartbeats 4000000 in
theorem s_WorkingPaths (t : Topo) (va vk : Value) (now : Int) (dead : List Int) (vd : Value) (ps : List Pth) (v : Value) (w : World) (ha : RdS ASd.rep w va t.ases) (hk : RdS Lnk.rep w vk t.links) (hd : RdS Rep.int w vd dead) (rp : RdS Pth.rep w v ps) (ht : t.size ≤ 1048576) (hl : pthsN ps ≤ 1048576) :
    Calls Tryz.prog 34 #[.agg #[va, vk], .int .i64 now, vd, v] w fun e w' => ∃ v', e = .returned v' ∧ OwnF intF 1 w.heap.size 3 w' v' (workPaths t now dead ps) ∧ Ext w w' := by
  obtain ⟨E⟩ := elemInt
  obtain ⟨o, cap, rfl, hsm⟩ := rp.shape
  obtain ⟨od, cdd, rfl, _⟩ := hd.shape
  unfold pthsN at hl
  have HTI := Lib.hid (show workPaths t now dead ps = wpIdx (reaches t now dead) ps ps.length from rfl)
  have hx0 : Ext w (w.alloc (.cells #[va, vk] 47)) := (Ext.refl _).alloc _
  have HB0 := Lib.hid (blk_new w (.cells #[va, vk] 47))
  go_enter Tryz.func34, Tryz.ntmps34
  have cf1 := blk2 HB0.out
  go_wp2_with fail
  clear cf1
  go_loopg [9, 10] ps.length (fun gk out i wr => ∃ (k : Nat) (xs : List Int), gk + k = ps.length ∧ i = .int .i64 k ∧ Hid (xs = wpIdx (reaches t now dead) ps k) ∧ xs.length ≤ k ∧ OwnF intF 1 (w.heap.size + 1) 3 wr out xs ∧ Ext (w.alloc (.cells #[va, vk] 47)) wr)
  case atStart => exact ⟨0, [], rfl, rfl, Lib.hid rfl, Nat.le_refl _, OwnF.emptyAt (by simp) (Nat.le_refl _), (Ext.refl _).alloc _⟩
  case round =>
    obtain ⟨k, xs, hgk, rfl, HX, hxl, hown, hx⟩ := hrel
    by_cases hlt : k < ps.length
    · obtain ⟨b, off, oh, ch, rfl, hc, hr⟩ := Pth.at ((rp.ext (hx0.trans hx))) k hlt
      have hle := pszN_le hlt
      have hg0 : gk - 1 + (k + 1) = ps.length ∧ gk - 1 < gk := by omega
      have HG := Lib.hid hg0; clear hg0 hgk
      have cf2 := blk2 (Ext.block hx HB0.out)
      go_wp2_with fail
      refine planStep (.blk [0, 1, 2, 3, 4, 5, 6] (.one 7 .done)) [] (by kernel_rfl) (by kernel_rfl) ?_
      try clear cf2
      have cf3 := blk2 (Ext.block (hx.trans ((Ext.refl _).drew)) HB0.out)
      refine blkStep (fun K HK => ?_)
      simp only [pick, List.filterMap_cons, List.filterMap_nil, List.getElem?_toArray, List.getElem?_cons_zero, List.getElem?_cons_succ]
      go_wp2_with fail
      refine HK.out _ _ ?_
      clear HK K
      refine oneStep (fun K HK => ?_)
      simp only [pick, List.filterMap_cons, List.filterMap_nil, List.getElem?_toArray, List.getElem?_cons_zero, List.getElem?_cons_succ]
      go_wp2_with fail
      refine (s_Reaches t _ _ now dead _ ps[k] _ _ (ha.ext ((hx0.trans hx).trans ((Ext.refl _).drew))) (hk.ext ((hx0.trans hx).trans ((Ext.refl _).drew))) (hd.ext ((hx0.trans hx).trans ((Ext.refl _).drew))) (hr.ext ((Ext.refl _).drew)) ht (by omega)).mono ?_
      rintro e w1 ⟨rfl, hz1⟩
      try clear cf3
      have cf4 := blk2 (Ext.block ((hx.trans ((Ext.refl _).drew)).trans hz1) HB0.out)
      go_wp2_with fail
      refine HK.out _ _ hz1 ?_
      clear HK K
      refine doneStep (by kernel_rfl) ?_
      cases hre : reaches t now dead ps[k]
      case true =>
        have HN := Lib.hid (wpIdx_yes hlt hre)
        have hb1 := OwnF.ext hown (((Ext.refl _).drew).trans hz1)
        go_wp2_with (at_builtin; refine app1 E intFlen intOne rfl _ _ rfl (k : Int) rfl (OwnF.ext hb1 ((Ext.refl _).alloc _)) rfl (by exact blk_list (intF (k : Int)) (blk_new w1 _)) (by omega) (by unfold maxLen; omega) (by have h1 := ((hx.trans ((Ext.refl _).drew)).trans hz1).size; simp at h1 ⊢; omega) ?_)
        intro v' w' ho' hg'
        have hx' := (((hx.trans ((Ext.refl _).drew)).trans hz1).alloc (.cells #[.int .i64 k] 3)).app hg' hb1 (by simp)
        clear hg'
        go_wp2_with fail
        go_roundg (gk - 1)
        case measure => exact HG.out.2
        case rel => exact ⟨k + 1, _, HG.out.1, by go_num, Lib.hid (by rw [HN.out, ← HX.out]), by simp; omega, ho', hx'⟩
      case false =>
        have HN := Lib.hid (wpIdx_no hlt hre)
        go_wp2_with fail
        go_roundg (gk - 1)
        case measure => exact HG.out.2
        case rel => exact ⟨k + 1, _, HG.out.1, by go_num, Lib.hid (by rw [HN.out, ← HX.out]), by omega, hown.ext (((Ext.refl _).drew).trans hz1), ((hx.trans ((Ext.refl _).drew)).trans hz1)⟩
    · have HXS := Lib.hid (show xs = workPaths t now dead ps by have h := HX.out; rw [show k = ps.length from by omega] at h; exact h)
      go_wp2_with fail
      go_ret
      rw [← HXS.out]
      exact ⟨_, rfl, hown.mono (Nat.le_succ _), (hx0.trans hx)⟩


theorem lmF_IntS (l : List Int) (v : Value) (k : Int) (S : Nat → Prop) (w : World) (o : ((Own.flat intF 1 intFlen 3)).own S w v l) (h0 : 0 ≤ k) (h1 : k + l.length ≤ 4611686018427387904) :
    Calls Tryz.prog 19 #[v, .int .i64 k] w fun e w' => e = .returned (.int .i64 (k + l.length)) ∧ ((Own.flat intF 1 intFlen 3)).own S w' v (markL intMk 1 (k) (l).length) ∧ Chg S w w' :=
  (l_markIntS l v k 0 w o.1 h0 (by omega)).mono fun _ _ ⟨he, ho, hg⟩ => ⟨he.trans (by rw [Int.one_mul]), ⟨ho, o.2⟩, Chg.ofGrown hg o.2⟩

set_option maxRecDepth 100000 in
set_option maxHeartbeats 8000000 in
theorem l_FnExactWorkingPaths (a0 : Topo) (v0h0 : Value) (v0h1 : Value) (a1 : Int) (a2 : List Int) (v2h0 : Value) (a3 : List Pth) (v3h0 : Value) (w : World) (r0h0 : RdS ASd.rep w v0h0 a0.ases) (r0h1 : RdS Lnk.rep w v0h1 a0.links) (_ : a0.ok) (_ : I64 a1) (r2h0 : RdS Rep.int w v2h0 a2) (_ : ∀ x ∈ a2, I64 x) (r3h0 : RdS Pth.rep w v3h0 a3) (_ : ∀ x ∈ a3, Pth.ok x) :
    Calls Tryz.prog 6 #[.agg #[v0h0, v0h1], .int .i64 a1, v2h0, v3h0] w fun e w' => e = .returned (.bool true) ∧ Ext w w' := by
  go_enter Tryz.func6, Tryz.ntmps6
  have e0 : Ext w (w.alloc (.cells #[v0h0, v0h1] 25)) := (Ext.refl _).alloc _
  have hB0 := blk_new w (.cells #[v0h0, v0h1] 25)
  have HB0 := Lib.hid hB0; clear hB0
  obtain ⟨vp2, vc2, rfl, vl2⟩ := r2h0.shape; clear vl2
  by_cases z2 : 1048576 < a2.length
  · have zz : (1048576 : Int) < (a2.length : Int) := by omega
    go_wp2_with fail
    go_ret
    exact ⟨rfl, e0⟩
  have zz2 : ¬ (1048576 : Int) < (a2.length : Int) := by omega
  go_wp2_with fail
  refine (l_szTopology a0 v0h0 v0h1 (1048576) _ (r0h0.ext e0) (r0h1.ext e0) (by omega) (by omega)).mono ?_
  rintro e w2 ⟨rfl, h2⟩
  rcases Int.lt_or_le (1048576 - (a0.size : Int)) 0 with z0 | z0
  · rw [show szL (1048576) a0.size = -1 from if_pos z0]
    go_wp2_with fail
    go_ret
    exact ⟨rfl, (e0.trans h2)⟩
  rw [show szL (1048576) a0.size = 1048576 - (a0.size : Int) from if_neg (by omega)]
  have hc2 := blk2 (Ext.block h2 HB0.out)
  go_wp2_with fail
  refine (l_szPathS a3 _ (1048576 - (a0.size : Int)) _ (r3h0.ext (e0.trans h2)) (by omega) (by omega)).mono ?_
  rintro e w3 ⟨rfl, h3⟩
  rcases Int.lt_or_le (1048576 - (a0.size : Int) - ((pthsN a3) : Int)) 0 with z3 | z3
  · rw [show szL (1048576 - (a0.size : Int)) (pthsN a3) = -1 from if_pos z3]
    go_wp2_with fail
    go_ret
    exact ⟨rfl, ((e0.trans h2).trans h3)⟩
  rw [show szL (1048576 - (a0.size : Int)) (pthsN a3) = 1048576 - (a0.size : Int) - ((pthsN a3) : Int) from if_neg (by omega)]
  have y0 : a0.size ≤ 1048576 := by omega
  have y2 : a2.length ≤ 1048576 := by omega
  have y3 : (pthsN a3) ≤ 1048576 := by omega
  have ym0 := Topo.cnt_le y0
  obtain ⟨ym0a, ym0b⟩ := ym0
  have ym1 := markPN_le a3
  have ym2 := markPN_nn a3
  have yr0 : (workPaths a0 a1 a2 a3).length ≤ 1048576 := by
    have h1 := wpIdx_len (reaches a0 a1 a2) a3 a3.length
    have h2 := y3
    unfold pthsN at h2
    show (wpIdx (reaches a0 a1 a2) a3 a3.length).length ≤ 1048576
    omega
  have hc3 := blk2 (Ext.block (h2.trans h3) HB0.out)
  go_wp2_with fail
  refine (l_toTopologyO a0 v0h0 v0h1 _ (r0h0.ext ((e0.trans h2).trans h3)) (r0h1.ext ((e0.trans h2).trans h3)) y0).mono ?_
  rintro e w4 ⟨s0u0, s0u1, rfl, s0o0, h4⟩
  have hc4 := blk2 (Ext.block ((h2.trans h3).trans h4) HB0.out)
  go_wp2_with fail
  refine (l_toIntS a2 _ _ (r2h0.ext (((e0.trans h2).trans h3).trans h4)) y2).mono ?_
  rintro e w5 ⟨s2u0, rfl, s2o0, h5⟩
  have s2o0q := Own.ofF (hf := intFlen) s2o0
  have hc5 := blk2 (Ext.block (((h2.trans h3).trans h4).trans h5) HB0.out)
  go_wp2_with fail
  refine (l_toPathS a3 v3h0 _ (r3h0.ext ((((e0.trans h2).trans h3).trans h4).trans h5)) y3).mono ?_
  rintro e w6 ⟨s3u0, rfl, s3o0, h6⟩
  have hc6 := blk2 (Ext.block ((((h2.trans h3).trans h4).trans h5).trans h6) HB0.out)
  go_wp2_with fail
  refine (s_WorkingPaths a0 s0u0 s0u1 a1 a2 s2u0 a3 s3u0 _ ((Topo.own_rd0 s0o0).ext (h5.trans h6)) ((Topo.own_rd1 s0o0).ext (h5.trans h6)) ((((Own.flat intF 1 intFlen 3)).rd s2o0q).ext h6) ((Pth.ownS).rd s3o0) y0 y3).mono ?_
  rintro e w7 ⟨spu0, rfl, spo0, h7⟩
  have spo0q := Own.ofF (hf := intFlen) spo0
  obtain ⟨spp0, spc0, rfl, spl0⟩ := (((Own.flat intF 1 intFlen 3)).rd spo0q).shape; clear spl0
  have hc7 := blk2 (Ext.block (((((h2.trans h3).trans h4).trans h5).trans h6).trans h7) HB0.out)
  go_wp2_with fail
  refine (l_toTopologyO a0 v0h0 v0h1 _ (r0h0.ext ((((((e0.trans h2).trans h3).trans h4).trans h5).trans h6).trans h7)) (r0h1.ext ((((((e0.trans h2).trans h3).trans h4).trans h5).trans h6).trans h7)) y0).mono ?_
  rintro e w8 ⟨x0u0, x0u1, rfl, x0o0, h8⟩
  obtain ⟨x0sp0, x0sc0, rfl, x0sl0⟩ := (Topo.own_rd0 x0o0).shape; clear x0sl0
  obtain ⟨x0sp1, x0sc1, rfl, x0sl1⟩ := (Topo.own_rd1 x0o0).shape; clear x0sl1
  have e8 : Ext w8 (w8.alloc (.cells #[(.slice x0sp0 (a0.ases).length x0sc0), (.slice x0sp1 (a0.links).length x0sc1)] 47)) := (Ext.refl _).alloc _
  have hB8 := blk_new w8 (.cells #[(.slice x0sp0 (a0.ases).length x0sc0), (.slice x0sp1 (a0.links).length x0sc1)] 47)
  have HB8 := Lib.hid hB8; clear hB8
  have hc8 := blk2 (Ext.block (((((((h2.trans h3).trans h4).trans h5).trans h6).trans h7).trans h8).trans e8) HB0.out)
  go_wp2_with fail
  refine (l_toIntS a2 _ _ (r2h0.ext ((((((((e0.trans h2).trans h3).trans h4).trans h5).trans h6).trans h7).trans h8).trans e8)) y2).mono ?_
  rintro e w10 ⟨x2u0, rfl, x2o0, h10⟩
  have x2o0q := Own.ofF (hf := intFlen) x2o0
  obtain ⟨x2sp0, x2sc0, rfl, x2sl0⟩ := (((Own.flat intF 1 intFlen 3)).rd x2o0q).shape; clear x2sl0
  have hc10 := blk2 (Ext.block ((((((((h2.trans h3).trans h4).trans h5).trans h6).trans h7).trans h8).trans e8).trans h10) HB0.out)
  have hc11 := blk2 (Ext.block h10 HB8.out)
  go_wp2_with fail
  refine (l_toPathS a3 v3h0 _ (r3h0.ext (((((((((e0.trans h2).trans h3).trans h4).trans h5).trans h6).trans h7).trans h8).trans e8).trans h10)) y3).mono ?_
  rintro e w11 ⟨x3u0, rfl, x3o0, h11⟩
  obtain ⟨x3sp0, x3sc0, rfl, x3sl0⟩ := ((Pth.ownS).rd x3o0).shape; clear x3sl0
  have hc12 := blk2 (Ext.block (((((((((h2.trans h3).trans h4).trans h5).trans h6).trans h7).trans h8).trans e8).trans h10).trans h11) HB0.out)
  have hc13 := blk2 (Ext.block (h10.trans h11) HB8.out)
  go_wp2_with fail
  refine (i_WorkingPaths a0 (.slice x0sp0 (a0.ases).length x0sc0) (.slice x0sp1 (a0.links).length x0sc1) a1 a2 (.slice x2sp0 (a2).length x2sc0) a3 (.slice x3sp0 (a3).length x3sc0) _ ((Topo.own_rd0 x0o0).ext ((e8.trans h10).trans h11)) ((Topo.own_rd1 x0o0).ext ((e8.trans h10).trans h11)) ((((Own.flat intF 1 intFlen 3)).rd x2o0q).ext h11) ((Pth.ownS).rd x3o0) y0 y3).mono ?_
  rintro e w12 ⟨gpu0, rfl, gpo0, h12⟩
  have gpo0q := Own.ofF (hf := intFlen) gpo0
  obtain ⟨gpp0, gpc0, rfl, gpl0⟩ := (((Own.flat intF 1 intFlen 3)).rd gpo0q).shape; clear gpl0
  have hc14 := blk2 (Ext.block ((((((((((h2.trans h3).trans h4).trans h5).trans h6).trans h7).trans h8).trans e8).trans h10).trans h11).trans h12) HB0.out)
  have hc15 := blk2 (Ext.block ((h10.trans h11).trans h12) HB8.out)
  go_wp2_with fail
  refine (l_eqIntS (workPaths a0 a1 a2 a3) (workPaths a0 a1 a2 a3) (.slice gpp0 ((workPaths a0 a1 a2 a3)).length gpc0) (.slice spp0 ((workPaths a0 a1 a2 a3)).length spc0) _ (((Own.flat intF 1 intFlen 3)).rd gpo0q) ((((Own.flat intF 1 intFlen 3)).rd spo0q).ext ((((h8.trans e8).trans h10).trans h11).trans h12))).mono ?_
  rintro e w13 ⟨rfl, h13⟩
  rw [show decide ((workPaths a0 a1 a2 a3) = (workPaths a0 a1 a2 a3)) = true from decide_eq_true rfl]
  have hc16 := blk2 (Ext.block (((((((((((h2.trans h3).trans h4).trans h5).trans h6).trans h7).trans h8).trans e8).trans h10).trans h11).trans h12).trans h13) HB0.out)
  have hc17 := blk2 (Ext.block (((h10.trans h11).trans h12).trans h13) HB8.out)
  go_wp2_with fail
  refine planStep (.blk [0, 1] (.one 2 (.one 3 (.blk [4] .done)))) [] (by kernel_rfl) (by kernel_rfl) ?_
  refine blkStep (fun K HK => ?_)
  simp only [pick, List.filterMap_cons, List.filterMap_nil, List.getElem?_toArray, List.getElem?_cons_zero, List.getElem?_cons_succ]
  go_wp2_with fail
  refine HK.out _ _ ?_
  clear HK K
  refine oneStep (fun K HK => ?_)
  simp only [pick, List.filterMap_cons, List.filterMap_nil, List.getElem?_toArray, List.getElem?_cons_zero, List.getElem?_cons_succ]
  go_wp2_with fail
  refine (l_toTopologyO a0 v0h0 v0h1 _ (r0h0.ext ((((((((((((e0.trans h2).trans h3).trans h4).trans h5).trans h6).trans h7).trans h8).trans e8).trans h10).trans h11).trans h12).trans h13).drew) (r0h1.ext ((((((((((((e0.trans h2).trans h3).trans h4).trans h5).trans h6).trans h7).trans h8).trans e8).trans h10).trans h11).trans h12).trans h13).drew) y0).mono ?_
  rintro e w14 ⟨t0u0, t0u1, rfl, t0o0, h14⟩
  go_wp2_with fail
  refine HK.out _ _ (h14) ?_
  clear HK K
  refine oneStep (fun K HK => ?_)
  simp only [pick, List.filterMap_cons, List.filterMap_nil, List.getElem?_toArray, List.getElem?_cons_zero, List.getElem?_cons_succ]
  go_wp2_with fail
  refine (l_eqTopology a0 a0 (.slice x0sp0 (a0.ases).length x0sc0) (.slice x0sp1 (a0.links).length x0sc1) t0u0 t0u1 _ ((Topo.own_rd0 x0o0).ext (((((e8.trans h10).trans h11).trans h12).trans h13).trans ((Ext.refl _).drew.trans h14))) ((Topo.own_rd1 x0o0).ext (((((e8.trans h10).trans h11).trans h12).trans h13).trans ((Ext.refl _).drew.trans h14))) (Topo.own_rd0 t0o0) (Topo.own_rd1 t0o0)).mono ?_
  rintro e w15 ⟨rfl, h15⟩
  rw [show decide (a0 = a0) = true from decide_eq_true rfl]
  go_wp2_with fail
  refine HK.out _ _ (h15) ?_
  clear HK K
  refine blkStep (fun K HK => ?_)
  simp only [pick, List.filterMap_cons, List.filterMap_nil, List.getElem?_toArray, List.getElem?_cons_zero, List.getElem?_cons_succ]
  go_wp2_with fail
  refine HK.out _ _ ?_
  clear HK K
  refine doneStep (by kernel_rfl) ?_
  have hc18 := blk2 (Ext.block (((((((((((((h2.trans h3).trans h4).trans h5).trans h6).trans h7).trans h8).trans e8).trans h10).trans h11).trans h12).trans h13).trans ((Ext.refl _).drew.trans h14)).trans h15) HB0.out)
  have hc19 := blk2 (Ext.block (((((h10.trans h11).trans h12).trans h13).trans ((Ext.refl _).drew.trans h14)).trans h15) HB8.out)
  go_wp2_with fail
  refine (l_toIntS a2 _ _ (r2h0.ext ((((((((((((((e0.trans h2).trans h3).trans h4).trans h5).trans h6).trans h7).trans h8).trans e8).trans h10).trans h11).trans h12).trans h13).trans ((Ext.refl _).drew.trans h14)).trans h15)) y2).mono ?_
  rintro e w16 ⟨t2u0, rfl, t2o0, h16⟩
  have t2o0q := Own.ofF (hf := intFlen) t2o0
  have hc20 := blk2 (Ext.block ((((((((((((((h2.trans h3).trans h4).trans h5).trans h6).trans h7).trans h8).trans e8).trans h10).trans h11).trans h12).trans h13).trans ((Ext.refl _).drew.trans h14)).trans h15).trans h16) HB0.out)
  have hc21 := blk2 (Ext.block ((((((h10.trans h11).trans h12).trans h13).trans ((Ext.refl _).drew.trans h14)).trans h15).trans h16) HB8.out)
  go_wp2_with fail
  refine (l_eqIntS a2 a2 (.slice x2sp0 (a2).length x2sc0) t2u0 _ ((((Own.flat intF 1 intFlen 3)).rd x2o0q).ext (((((h11.trans h12).trans h13).trans ((Ext.refl _).drew.trans h14)).trans h15).trans h16)) (((Own.flat intF 1 intFlen 3)).rd t2o0q)).mono ?_
  rintro e w17 ⟨rfl, h17⟩
  rw [show decide (a2 = a2) = true from decide_eq_true rfl]
  have hc22 := blk2 (Ext.block (((((((((((((((h2.trans h3).trans h4).trans h5).trans h6).trans h7).trans h8).trans e8).trans h10).trans h11).trans h12).trans h13).trans ((Ext.refl _).drew.trans h14)).trans h15).trans h16).trans h17) HB0.out)
  have hc23 := blk2 (Ext.block (((((((h10.trans h11).trans h12).trans h13).trans ((Ext.refl _).drew.trans h14)).trans h15).trans h16).trans h17) HB8.out)
  go_wp2_with fail
  refine (l_toPathS a3 v3h0 _ (r3h0.ext ((((((((((((((((e0.trans h2).trans h3).trans h4).trans h5).trans h6).trans h7).trans h8).trans e8).trans h10).trans h11).trans h12).trans h13).trans ((Ext.refl _).drew.trans h14)).trans h15).trans h16).trans h17)) y3).mono ?_
  rintro e w18 ⟨t3u0, rfl, t3o0, h18⟩
  have hc24 := blk2 (Ext.block ((((((((((((((((h2.trans h3).trans h4).trans h5).trans h6).trans h7).trans h8).trans e8).trans h10).trans h11).trans h12).trans h13).trans ((Ext.refl _).drew.trans h14)).trans h15).trans h16).trans h17).trans h18) HB0.out)
  have hc25 := blk2 (Ext.block ((((((((h10.trans h11).trans h12).trans h13).trans ((Ext.refl _).drew.trans h14)).trans h15).trans h16).trans h17).trans h18) HB8.out)
  go_wp2_with fail
  refine (l_eqPathS a3 a3 (.slice x3sp0 (a3).length x3sc0) t3u0 _ (((Pth.ownS).rd x3o0).ext ((((((h12.trans h13).trans ((Ext.refl _).drew.trans h14)).trans h15).trans h16).trans h17).trans h18)) ((Pth.ownS).rd t3o0)).mono ?_
  rintro e w19 ⟨rfl, h19⟩
  rw [show decide (a3 = a3) = true from decide_eq_true rfl]
  have hc26 := blk2 (Ext.block (((((((((((((((((h2.trans h3).trans h4).trans h5).trans h6).trans h7).trans h8).trans e8).trans h10).trans h11).trans h12).trans h13).trans ((Ext.refl _).drew.trans h14)).trans h15).trans h16).trans h17).trans h18).trans h19) HB0.out)
  have hc27 := blk2 (Ext.block (((((((((h10.trans h11).trans h12).trans h13).trans ((Ext.refl _).drew.trans h14)).trans h15).trans h16).trans h17).trans h18).trans h19) HB8.out)
  go_wp2_with fail
  refine (l_markTopology (a0) (.slice x0sp0 (a0.ases).length x0sc0) (.slice x0sp1 (a0.links).length x0sc1) (1) _ _ (Topo.own_ext x0o0 ((((((((((e8.trans h10).trans h11).trans h12).trans h13).trans ((Ext.refl _).drew.trans h14)).trans h15).trans h16).trans h17).trans h18).trans h19)) (by omega) (by omega)).mono ?_
  rintro e w20 ⟨rfl, mx0o, mx0c⟩
  have HB0m1 := Lib.hid (Chg.blk mx0c (Ext.block (((((((((((((((((h2.trans h3).trans h4).trans h5).trans h6).trans h7).trans h8).trans e8).trans h10).trans h11).trans h12).trans h13).trans ((Ext.refl _).drew.trans h14)).trans h15).trans h16).trans h17).trans h18).trans h19) HB0.out) (.inl (Nat.lt_of_lt_of_le (blk_lt HB0.out) (((((h2.trans h3).trans h4).trans h5).trans h6).trans h7).size)))
  have HB8m1 := Lib.hid (Chg.blk mx0c (Ext.block (((((((((h10.trans h11).trans h12).trans h13).trans ((Ext.refl _).drew.trans h14)).trans h15).trans h16).trans h17).trans h18).trans h19) HB8.out) (.inr (Ext.refl _).size))
  have s0o0_m1 := Topo.own_kept (Topo.own_ext s0o0 ((((((((((((((h5.trans h6).trans h7).trans h8).trans e8).trans h10).trans h11).trans h12).trans h13).trans ((Ext.refl _).drew.trans h14)).trans h15).trans h16).trans h17).trans h18).trans h19)) mx0c (rng_apart (.inl ((h5.trans h6).trans h7).size))
  have s2o0q_m1 := Own.kept _ (Own.ext s2o0q (((((((((((((h6.trans h7).trans h8).trans e8).trans h10).trans h11).trans h12).trans h13).trans ((Ext.refl _).drew.trans h14)).trans h15).trans h16).trans h17).trans h18).trans h19)) mx0c (rng_apart (.inl (h6.trans h7).size))
  have s3o0_m1 := Own.kept _ (Own.ext s3o0 ((((((((((((h7.trans h8).trans e8).trans h10).trans h11).trans h12).trans h13).trans ((Ext.refl _).drew.trans h14)).trans h15).trans h16).trans h17).trans h18).trans h19)) mx0c (rng_apart (.inl h7.size))
  have spo0q_m1 := Own.kept _ (Own.ext spo0q (((((((((((h8.trans e8).trans h10).trans h11).trans h12).trans h13).trans ((Ext.refl _).drew.trans h14)).trans h15).trans h16).trans h17).trans h18).trans h19)) mx0c (rng_apart (.inl (Ext.refl _).size))
  have x2o0q_m1 := Own.kept _ (Own.ext x2o0q ((((((((h11.trans h12).trans h13).trans ((Ext.refl _).drew.trans h14)).trans h15).trans h16).trans h17).trans h18).trans h19)) mx0c (rng_apart (.inr e8.size))
  have x3o0_m1 := Own.kept _ (Own.ext x3o0 (((((((h12.trans h13).trans ((Ext.refl _).drew.trans h14)).trans h15).trans h16).trans h17).trans h18).trans h19)) mx0c (rng_apart (.inr (e8.trans h10).size))
  have gpo0q_m1 := Own.kept _ (Own.ext gpo0q ((((((h13.trans ((Ext.refl _).drew.trans h14)).trans h15).trans h16).trans h17).trans h18).trans h19)) mx0c (rng_apart (.inr ((e8.trans h10).trans h11).size))
  have t0o0_m1 := Topo.own_kept (Topo.own_ext t0o0 ((((h15.trans h16).trans h17).trans h18).trans h19)) mx0c (rng_apart (.inr ((((e8.trans h10).trans h11).trans h12).trans h13).size))
  have t2o0q_m1 := Own.kept _ (Own.ext t2o0q ((h17.trans h18).trans h19)) mx0c (rng_apart (.inr ((((((e8.trans h10).trans h11).trans h12).trans h13).trans ((Ext.refl _).drew.trans h14)).trans h15).size))
  have t3o0_m1 := Own.kept _ (Own.ext t3o0 h19) mx0c (rng_apart (.inr ((((((((e8.trans h10).trans h11).trans h12).trans h13).trans ((Ext.refl _).drew.trans h14)).trans h15).trans h16).trans h17).size))
  have X1 := Ext.chg ((((((((((((((((((e0.trans h2).trans h3).trans h4).trans h5).trans h6).trans h7).trans h8).trans e8).trans h10).trans h11).trans h12).trans h13).trans ((Ext.refl _).drew.trans h14)).trans h15).trans h16).trans h17).trans h18).trans h19) mx0c (fun i hi => Nat.le_trans ((((((e0.trans h2).trans h3).trans h4).trans h5).trans h6).trans h7).size hi.1)
  have hc28 := blk2 HB0m1.out
  have hc29 := blk2 HB8m1.out
  go_wp2_with fail
  refine (lmF_IntS (a2) (.slice x2sp0 (a2).length x2sc0) (1 + (a0).cnt) _ _ x2o0q_m1 (by omega) (by omega)).mono ?_
  rintro e w21 ⟨rfl, mx2o, mx2c⟩
  have HB0m2 := Lib.hid (Chg.blk mx2c HB0m1.out (.inl (Nat.lt_of_lt_of_le (blk_lt HB0.out) (((((((h2.trans h3).trans h4).trans h5).trans h6).trans h7).trans h8).trans e8).size)))
  have HB8m2 := Lib.hid (Chg.blk mx2c HB8m1.out (.inl (Nat.lt_of_lt_of_le (blk_lt HB8.out) (Ext.refl _).size)))
  have s0o0_m2 := Topo.own_kept s0o0_m1 mx2c (rng_apart (.inl ((((h5.trans h6).trans h7).trans h8).trans e8).size))
  have s2o0q_m2 := Own.kept _ s2o0q_m1 mx2c (rng_apart (.inl (((h6.trans h7).trans h8).trans e8).size))
  have s3o0_m2 := Own.kept _ s3o0_m1 mx2c (rng_apart (.inl ((h7.trans h8).trans e8).size))
  have spo0q_m2 := Own.kept _ spo0q_m1 mx2c (rng_apart (.inl (h8.trans e8).size))
  have mx0o_m2 := Topo.own_kept mx0o mx2c (rng_apart (.inl e8.size))
  have x3o0_m2 := Own.kept _ x3o0_m1 mx2c (rng_apart (.inr (Ext.refl _).size))
  have gpo0q_m2 := Own.kept _ gpo0q_m1 mx2c (rng_apart (.inr h11.size))
  have t0o0_m2 := Topo.own_kept t0o0_m1 mx2c (rng_apart (.inr ((h11.trans h12).trans h13).size))
  have t2o0q_m2 := Own.kept _ t2o0q_m1 mx2c (rng_apart (.inr ((((h11.trans h12).trans h13).trans ((Ext.refl _).drew.trans h14)).trans h15).size))
  have t3o0_m2 := Own.kept _ t3o0_m1 mx2c (rng_apart (.inr ((((((h11.trans h12).trans h13).trans ((Ext.refl _).drew.trans h14)).trans h15).trans h16).trans h17).size))
  have X2 := Ext.chg (X1.trans (Ext.refl _)) mx2c (fun i hi => Nat.le_trans ((((((((e0.trans h2).trans h3).trans h4).trans h5).trans h6).trans h7).trans h8).trans e8).size hi.1)
  have hc30 := blk2 HB0m2.out
  have hc31 := blk2 HB8m2.out
  go_wp2_with fail
  refine (l_markPathS (a3) (.slice x3sp0 (a3).length x3sc0) (1 + (a0).cnt + ((a2).length : Int)) _ _ x3o0_m2 (by omega) (by omega)).mono ?_
  rintro e w22 ⟨rfl, mx3o, mx3c⟩
  have HB0m3 := Lib.hid (Chg.blk mx3c HB0m2.out (.inl (Nat.lt_of_lt_of_le (blk_lt HB0.out) ((((((((h2.trans h3).trans h4).trans h5).trans h6).trans h7).trans h8).trans e8).trans h10).size)))
  have HB8m3 := Lib.hid (Chg.blk mx3c HB8m2.out (.inl (Nat.lt_of_lt_of_le (blk_lt HB8.out) h10.size)))
  have s0o0_m3 := Topo.own_kept s0o0_m2 mx3c (rng_apart (.inl (((((h5.trans h6).trans h7).trans h8).trans e8).trans h10).size))
  have s2o0q_m3 := Own.kept _ s2o0q_m2 mx3c (rng_apart (.inl ((((h6.trans h7).trans h8).trans e8).trans h10).size))
  have s3o0_m3 := Own.kept _ s3o0_m2 mx3c (rng_apart (.inl (((h7.trans h8).trans e8).trans h10).size))
  have spo0q_m3 := Own.kept _ spo0q_m2 mx3c (rng_apart (.inl ((h8.trans e8).trans h10).size))
  have mx0o_m3 := Topo.own_kept mx0o_m2 mx3c (rng_apart (.inl (e8.trans h10).size))
  have mx2o_m3 := Own.kept _ mx2o mx3c (rng_apart (.inl (Ext.refl _).size))
  have gpo0q_m3 := Own.kept _ gpo0q_m2 mx3c (rng_apart (.inr (Ext.refl _).size))
  have t0o0_m3 := Topo.own_kept t0o0_m2 mx3c (rng_apart (.inr (h12.trans h13).size))
  have t2o0q_m3 := Own.kept _ t2o0q_m2 mx3c (rng_apart (.inr (((h12.trans h13).trans ((Ext.refl _).drew.trans h14)).trans h15).size))
  have t3o0_m3 := Own.kept _ t3o0_m2 mx3c (rng_apart (.inr (((((h12.trans h13).trans ((Ext.refl _).drew.trans h14)).trans h15).trans h16).trans h17).size))
  have X3 := Ext.chg (X2.trans (Ext.refl _)) mx3c (fun i hi => Nat.le_trans (((((((((e0.trans h2).trans h3).trans h4).trans h5).trans h6).trans h7).trans h8).trans e8).trans h10).size hi.1)
  have hqp : ¬ (1 + (a0).cnt + ((a2).length : Int) + markPN a3) < 0 := by omega
  have hc32 := blk2 HB0m3.out
  have hc33 := blk2 HB8m3.out
  go_wp2_with fail
  refine (l_eqIntS (workPaths a0 a1 a2 a3) (workPaths a0 a1 a2 a3) (.slice gpp0 ((workPaths a0 a1 a2 a3)).length gpc0) (.slice spp0 ((workPaths a0 a1 a2 a3)).length spc0) _ (((Own.flat intF 1 intFlen 3)).rd gpo0q_m3) (((Own.flat intF 1 intFlen 3)).rd spo0q_m3)).mono ?_
  rintro e w23 ⟨rfl, h23⟩
  rw [show decide ((workPaths a0 a1 a2 a3) = (workPaths a0 a1 a2 a3)) = true from decide_eq_true rfl]
  have hc34 := blk2 (Ext.block h23 HB0m3.out)
  have hc35 := blk2 (Ext.block h23 HB8m3.out)
  go_wp2_with fail
  refine (lmF_IntS ((workPaths a0 a1 a2 a3)) (.slice gpp0 ((workPaths a0 a1 a2 a3)).length gpc0) (1) _ _ (Own.ext gpo0q_m3 h23) (by omega) (by omega)).mono ?_
  rintro e w24 ⟨rfl, mgo, mgc⟩
  have HB0m4 := Lib.hid (Chg.blk mgc (Ext.block h23 HB0m3.out) (.inl (Nat.lt_of_lt_of_le (blk_lt HB0.out) (((((((((h2.trans h3).trans h4).trans h5).trans h6).trans h7).trans h8).trans e8).trans h10).trans h11).size)))
  have HB8m4 := Lib.hid (Chg.blk mgc (Ext.block h23 HB8m3.out) (.inl (Nat.lt_of_lt_of_le (blk_lt HB8.out) (h10.trans h11).size)))
  have s0o0_m4 := Topo.own_kept (Topo.own_ext s0o0_m3 h23) mgc (rng_apart (.inl ((((((h5.trans h6).trans h7).trans h8).trans e8).trans h10).trans h11).size))
  have s2o0q_m4 := Own.kept _ (Own.ext s2o0q_m3 h23) mgc (rng_apart (.inl (((((h6.trans h7).trans h8).trans e8).trans h10).trans h11).size))
  have s3o0_m4 := Own.kept _ (Own.ext s3o0_m3 h23) mgc (rng_apart (.inl ((((h7.trans h8).trans e8).trans h10).trans h11).size))
  have spo0q_m4 := Own.kept _ (Own.ext spo0q_m3 h23) mgc (rng_apart (.inl (((h8.trans e8).trans h10).trans h11).size))
  have mx0o_m4 := Topo.own_kept (Topo.own_ext mx0o_m3 h23) mgc (rng_apart (.inl ((e8.trans h10).trans h11).size))
  have mx2o_m4 := Own.kept _ (Own.ext mx2o_m3 h23) mgc (rng_apart (.inl h11.size))
  have mx3o_m4 := Own.kept _ (Own.ext mx3o h23) mgc (rng_apart (.inl (Ext.refl _).size))
  have t0o0_m4 := Topo.own_kept (Topo.own_ext t0o0_m3 h23) mgc (rng_apart (.inr h13.size))
  have t2o0q_m4 := Own.kept _ (Own.ext t2o0q_m3 h23) mgc (rng_apart (.inr ((h13.trans ((Ext.refl _).drew.trans h14)).trans h15).size))
  have t3o0_m4 := Own.kept _ (Own.ext t3o0_m3 h23) mgc (rng_apart (.inr ((((h13.trans ((Ext.refl _).drew.trans h14)).trans h15).trans h16).trans h17).size))
  have X4 := Ext.chg (X3.trans h23) mgc (fun i hi => Nat.le_trans ((((((((((e0.trans h2).trans h3).trans h4).trans h5).trans h6).trans h7).trans h8).trans e8).trans h10).trans h11).size hi.1)
  have hc36 := blk2 HB0m4.out
  have hc37 := blk2 HB8m4.out
  go_wp2_with fail
  refine (l_heldIntS _ (.slice gpp0 ((workPaths a0 a1 a2 a3)).length gpc0) (1) _ (((Own.flat intF 1 intFlen 3)).rd mgo) (by omega) (by omega)).mono ?_
  rintro e w25 ⟨rfl, h25⟩
  have hmp : ¬ (1 + (((workPaths a0 a1 a2 a3)).length : Int)) < 0 := by omega
  have hc38 := blk2 (Ext.block h25 HB0m4.out)
  have hc39 := blk2 (Ext.block h25 HB8m4.out)
  go_wp2_with fail
  refine (l_toTopologyO a0 v0h0 v0h1 _ (r0h0.ext (X4.trans h25)) (r0h1.ext (X4.trans h25)) y0).mono ?_
  rintro e w26 ⟨k0u0, k0u1, rfl, k0o0, h26⟩
  have hc40 := blk2 (Ext.block (h25.trans h26) HB0m4.out)
  have hc41 := blk2 (Ext.block (h25.trans h26) HB8m4.out)
  go_wp2_with fail
  refine (l_toIntS a2 _ _ (r2h0.ext (X4.trans (h25.trans h26))) y2).mono ?_
  rintro e w27 ⟨k2u0, rfl, k2o0, h27⟩
  have k2o0q := Own.ofF (hf := intFlen) k2o0
  have hc42 := blk2 (Ext.block ((h25.trans h26).trans h27) HB0m4.out)
  have hc43 := blk2 (Ext.block ((h25.trans h26).trans h27) HB8m4.out)
  go_wp2_with fail
  refine (l_toPathS a3 v3h0 _ (r3h0.ext (X4.trans ((h25.trans h26).trans h27))) y3).mono ?_
  rintro e w28 ⟨k3u0, rfl, k3o0, h28⟩
  have hc44 := blk2 (Ext.block (((h25.trans h26).trans h27).trans h28) HB0m4.out)
  have hc45 := blk2 (Ext.block (((h25.trans h26).trans h27).trans h28) HB8m4.out)
  go_wp2_with fail
  refine (i_WorkingPaths a0 k0u0 k0u1 a1 a2 k2u0 a3 k3u0 _ ((Topo.own_rd0 k0o0).ext (h27.trans h28)) ((Topo.own_rd1 k0o0).ext (h27.trans h28)) ((((Own.flat intF 1 intFlen 3)).rd k2o0q).ext h28) ((Pth.ownS).rd k3o0) y0 y3).mono ?_
  rintro e w29 ⟨hpu0, rfl, hpo0, h29⟩
  have hpo0q := Own.ofF (hf := intFlen) hpo0
  obtain ⟨hpp0, hpc0, rfl, hpl0⟩ := (((Own.flat intF 1 intFlen 3)).rd hpo0q).shape; clear hpl0
  have hc46 := blk2 (Ext.block ((((h25.trans h26).trans h27).trans h28).trans h29) HB0m4.out)
  have hc47 := blk2 (Ext.block ((((h25.trans h26).trans h27).trans h28).trans h29) HB8m4.out)
  go_wp2_with fail
  refine (l_eqIntS (workPaths a0 a1 a2 a3) (workPaths a0 a1 a2 a3) (.slice hpp0 ((workPaths a0 a1 a2 a3)).length hpc0) (.slice spp0 ((workPaths a0 a1 a2 a3)).length spc0) _ (((Own.flat intF 1 intFlen 3)).rd hpo0q) ((((Own.flat intF 1 intFlen 3)).rd spo0q_m4).ext ((((h25.trans h26).trans h27).trans h28).trans h29))).mono ?_
  rintro e w30 ⟨rfl, h30⟩
  rw [show decide ((workPaths a0 a1 a2 a3) = (workPaths a0 a1 a2 a3)) = true from decide_eq_true rfl]
  have hc48 := blk2 (Ext.block (((((h25.trans h26).trans h27).trans h28).trans h29).trans h30) HB0m4.out)
  have hc49 := blk2 (Ext.block (((((h25.trans h26).trans h27).trans h28).trans h29).trans h30) HB8m4.out)
  go_wp2_with fail
  refine (l_heldIntS _ (.slice gpp0 ((workPaths a0 a1 a2 a3)).length gpc0) (1) _ ((((Own.flat intF 1 intFlen 3)).rd mgo).ext (((((h25.trans h26).trans h27).trans h28).trans h29).trans h30)) (by omega) (by omega)).mono ?_
  rintro e w31 ⟨rfl, h31⟩
  go_wp2_with fail
  go_ret
  exact ⟨rfl, (X4.trans ((((((h25.trans h26).trans h27).trans h28).trans h29).trans h30).trans h31))⟩


set_option maxRecDepth 100000 in
theorem FnExactWorkingPaths_lifted (os : Os) (started : os.Started) (H : Type) (enc : TypeId × Value → H) :
    ReturnsInHanded {} Tryz.checked os 6 .any (Rows.fnExactWorkingPathsSpec.pre6 enc Tryz.prog Tryz.f6 Rows.fnExactWorkingPathsRow.domain false) (Rows.fnExactWorkingPathsSpec.post enc Tryz.prog Tryz.f6 false true false false) := by
  refine returnsInHanded_of_change (C := Tryz.checked) own_knob started (by kernel_rfl) Tryz.func6
    (ChangeSpec.witness6 (enc := enc) (C := Tryz.checked) false ⟨#[], #[.agg #[.slice none 0 0, .slice none 0 0], .int .i64 0, .slice none 0 0, .slice none 0 0], []⟩ 8 (by kernel_rfl) (by kernel_rfl) (by kernel_rfl) (by kernel_rfl)) ?_
  intro W base args ds gs before hval0 hW hcnd _
  have hval : ∀ (j : Nat) t v, Tryz.f6.params[j]? = some t → args[j]? = some v → Value.okWide Tryz.prog W .any base t v := hval0
  have hW' := hW
  obtain ⟨p, q, hA0, hV, rfl, hfz, hnd⟩ := hW
  have hA : DataW.TrodAll enc Tryz.prog W 0 (fun _ => true) true Tryz.f6.params.toList args.toList ds p := hA0
  rw [Tryz.params6] at hA hval
  obtain ⟨v0, vs0, d0, ds0, p0, q0, hargs, rfl, rfl, t0, r0⟩ := trodAll_cons hA
  obtain ⟨v1, vs1, d1, ds1, p1, q1, rfl, rfl, rfl, t1, r1⟩ := trodAll_cons r0
  obtain ⟨v2, vs2, d2, ds2, p2, q2, rfl, rfl, rfl, t2, r2⟩ := trodAll_cons r1
  obtain ⟨v3, vs3, d3, ds3, p3, q3, rfl, rfl, rfl, t3, r3⟩ := trodAll_cons r2
  obtain ⟨rfl, rfl, rfl⟩ := trodAll_nil r3
  obtain rfl : args = #[v0, v1, v2, v3] := by cases args; simp_all
  obtain ⟨c0, a0, rfl, b0, k0⟩ := arg_struct Tryz.underlying25 (hval 0 _ v0 rfl rfl) Topo.opens t0
  obtain ⟨v0h0, v0h1, rfl, r0h0, r0h1⟩ := b0
  obtain ⟨a1, rfl, k1⟩ := arg_int Tryz.underlying3 (hval 1 _ v1 rfl rfl) t1
  obtain ⟨a2, b2, k2⟩ := arg_slice Tryz.underlying26 (hval 2 _ v2 rfl rfl) opensInts t2
  obtain ⟨a3, b3, k3⟩ := arg_slice Tryz.underlying71 (hval 3 _ v3 rfl rfl) Pth.opensS t3
  refine (l_FnExactWorkingPaths a0 v0h0 v0h1 a1 a2 v2 a3 v3 W r0h0 r0h1 k0 k1 b2 k2 b3 k3).mono fun e W' ⟨he, hx⟩ => ?_
  subst he
  refine ⟨_, rfl, post_law laid_out ?_ (by kernel_rfl) Tryz.underlying4 rfl ?_ hW' hx⟩
  · rw [Tryz.params6]
    intro t ht
    simp only [List.mem_cons, List.not_mem_nil, or_false] at ht
    rcases ht with rfl | rfl | rfl | rfl <;> exact ⟨by kernel_rfl, of_decide_eq_true (by kernel_rfl)⟩
  · rw [Tryz.params6]
    intro ds' h
    obtain ⟨x0, x1, x2, x3, rfl⟩ := len4 (by simpa using h)
    rfl

theorem FnExactWorkingPaths_holds : Rows.FnExactWorkingPathsSaid :=
  OpenClaim.holds_of_wide 6 Tryz.f6 rfl rfl rfl rfl rfl rfl rfl ⟨rfl, rfl, rfl, rfl, rfl⟩ rfl rfl rfl rfl rfl (by kernel_rfl) Tryz.func6 (by kernel_rfl)
    (of_decide_eq_true (by kernel_rfl)) (by unfold Func.isWrapper; first | (rw [if_pos (by decide +kernel)]; kernel_rfl) | (rw [if_neg (by decide +kernel)]; exact ⟨rfl, rfl⟩))
    (fun os started H enc _ => FnExactWorkingPaths_lifted os started H enc)
#print axioms FnExactWorkingPaths_holds

end Go.Proofs.YtiabfgebfjmplaaGreat
