/- What these laws need: FnNotes: The cursor that the draws of the laws read: its contracts say no more than the bounds of what is drawn. Blocks of five cells written whole, and one cell of a block written. The data of traces, how they read, what they own, and the contracts of the laws' helper functions over them. Contract of turning a part around, reference. Rows that the call owns, by ranges of blocks, and rows that are only read from now on. A draw under way: its cursor, what has turned, and cells written in place. A region that draws its order, walked along one schedule: what only reads is taken as soon as it may come up, in a class of worlds; the last operations, which all others are ahead of, may leave that class. Draws of numbers: no more is said of them than their bounds. Contracts of turning paths around, program and reference. Ownership of a topology and its marks. -/
import Derived.Deep.LoopGhost
import Derived.Deep.DeepCutAuto
import Derived.Test.YtcpfmhgfaliemaaGreatKM7
namespace Go.Proofs.YtcpfmhgfaliemaaGreat
section
open Go.ChangeShapes Go.WideShapes Go.ChangeAt Go.RowKit Go.Deep
theorem ExtW.outD {w w1 : World} (h : ∃ x : ExtW w, w1 = x.w') : Ext w w1 := by obtain ⟨y, rfl⟩ := h; exact y.h
theorem Chg.setC {S : Nat → Prop} {a b : World} (h : Chg S a b) {p : Addr} (hp : S p.block) (u : Value) : Chg S a (b.setCell p u) :=
 h.trans ⟨rfl, rfl, rfl, by simp, fun k _ hn => Below.heap_setCell _ _ _ _ (fun e => hn (by rw [e]; exact hp))⟩
theorem OwnF.at1 {α : Type} {n : Nat} {f : α → List Value} {base g : Nat} {e : TypeId} {w w' : World} {v : Value} {l : List α} (h : OwnF f n base e w v l) (c : Chg (at1 g) w w') (hg : g < base) : OwnF f n base e w' v l :=
 h.chg c (fun k hk e => by have h1 := (h.block k hk).1; have h2 : k = g := e; omega)
theorem Chg.app {α : Type} {f : α → List Value} {n base g : Nat} {e : TypeId} {v : Value} {l : List α} {a b b' c : World} (h : Chg (at1 g) a b) (hg : b.grownBy c v.ownBlock) (ho : OwnF f n base e b' v l) (hb : a.heap.size ≤ base) : Chg (at1 g) a c :=
 h.up (Chg.ofGrown (S := fun k => v.ownBlock = some k) hg (fun _ h => h)) (fun k hk => .inr (Nat.le_trans hb (ho.block k hk).1))
theorem Cur.app {α : Type} {f : α → List Value} {n base g : Nat} {e : TypeId} {v cv : Value} {cd : List Int} {l : List α} {a b b' c : World} (h0 : Cur g cv cd a) (h : Cur g cv cd b) (hg : b.grownBy c v.ownBlock) (ho : OwnF f n base e b' v l) (hb : a.heap.size ≤ base) (cx : Chg (at1 g) a b) : Cur g cv cd c :=
 h0.kept h (Chg.ofGrown (S := fun k => v.ownBlock = some k) hg (fun _ h => h)) (fun hk => by have h1 := (ho.block g hk).1; have h2 := h0.lt; omega) (Chg.app cx hg ho hb)
set_option maxHeartbeats 400000 in
theorem l_big (code : List Int) (v : Value) (w : World) (hr : RdS Rep.byte w v code) :
  Calls Tryz.prog 7 #[v] w fun e w' => e = .returned (.bool (decide (1048576 < code.length))) ∧ w = w' := by
 obtain ⟨o, cap, rfl, hsm⟩ := hr.shape
 go_enter Tryz.func7, Tryz.ntmps7
 by_cases hb : 1048576 < code.length
 ·
  have h1 : decide (1048576 < (code.length : Int)) = true := by simp; omega
  have h2 : decide (1048576 < code.length) = true := by simpa using hb
  have H2 := Lib.hid h2; clear h2 hb
  go_wp2
  go_ret
  exact ⟨ret_bool H2.out.symm, rfl⟩
 ·
  have h1 : decide (1048576 < (code.length : Int)) = false := by simp; omega
  have h2 : decide (1048576 < code.length) = false := by simpa using hb
  have H2 := Lib.hid h2; clear h2 hb
  go_wp2
  go_ret
  exact ⟨ret_bool H2.out.symm, rfl⟩
set_option maxRecDepth 100000 in
set_option maxHeartbeats 2000000 in
theorem s_l1New (code : List Int) (v : Value) (w : World) (hr : RdS Rep.byte w v code) (hu : ∀ x ∈ code, U8 x) (hl : code.length ≤ 1048576) :
  Calls Tryz.prog 82 #[v] w fun e w' => ∃ g : Nat, e = .returned (.pointer (some ⟨g, 0, none⟩)) ∧ w.heap.size ≤ g ∧ Cur g v code w' ∧ Ext w w' := by
 obtain ⟨o, cap, rfl, hsm⟩ := hr.shape
 go_enter Tryz.func82, Tryz.ntmps82
 go_wp2
 go_loopg [3, 4] code.length (fun gk h i wr => ∃ (k : Nat) (hh : Int), gk + k = code.length ∧ i = .int .i64 k ∧ h = .int .i64 hh ∧ w = wr)
 case atStart => exact ⟨0, _, rfl, rfl, rfl, rfl⟩
 case round =>
  obtain ⟨k, hh, hgk, rfl, rfl, rfl⟩ := hrel
  by_cases hlt : k < code.length
  ·
   obtain ⟨b, off, rfl, hcell⟩ := bytes_at hr k hlt; have hg0 : gk - 1 + (k + 1) = code.length ∧ gk - 1 < gk := by omega
   have HG := Lib.hid hg0; clear hg0 hgk
   by_cases h4 : k < 4000
   ·
    go_wp2_with fail
    go_roundg (gk - 1)
    case measure => exact HG.out.2
    case rel => exact ⟨k + 1, _, HG.out.1, by go_num, rfl, rfl⟩
   ·
    go_wp2_with fail
    go_ret
    refine ⟨w.heap.size, rfl, Nat.le_refl _, ⟨⟨0, hh, blk_new _ _, by omega, by omega⟩, fun w2 c2 => ?_, hu⟩, (Ext.refl _).alloc _⟩; exact hr.ext (((Ext.refl w).alloc _).ofCur c2 (Nat.le_refl _))
  ·
   go_wp2_with fail
   go_ret
   refine ⟨w.heap.size, rfl, Nat.le_refl _, ⟨⟨0, hh, blk_new _ _, by omega, by omega⟩, fun w2 c2 => ?_, hu⟩, (Ext.refl _).alloc _⟩; exact hr.ext (((Ext.refl w).alloc _).ofCur c2 (Nat.le_refl _))
set_option maxRecDepth 100000 in
set_option maxHeartbeats 2000000 in
theorem s_l1Byte (g : Nat) (v : Value) (code : List Int) (w : World) (hc : Cur g v code w) :
  Calls Tryz.prog 169 #[.pointer (some ⟨g, 0, none⟩)] w fun e w' => ∃ r : Int, e = .returned (.int .i64 r) ∧ 0 ≤ r ∧ r ≤ 255 ∧ Cur g v code w' ∧ Chg (at1 g) w w' := by
 have hcur := hc; obtain ⟨⟨i, h, hb, hi0, hi1⟩, hs, hu⟩ := hc; obtain ⟨o, cap, rfl, hsm⟩ := hs.rd.shape; have HB := Lib.hid hb; clear hb; have c1 := blk3 HB.out; have f2 := fr_of HB.out 2
 go_enter Tryz.func169, Tryz.ntmps169
 go_upto_region 1 with (fail)
 go_cut [] (fun wx => ∃ H : Int, wx.heap[g]? = some (.cells #[.slice o code.length cap, .int .i64 i, .int .i64 H] 182) ∧ Chg (at1 g) w wx)
 case first =>
  go_wp2_with fail
  go_meet
  exact ⟨_, by simpa using blk_set HB.out 2 _, Chg.setC (S := at1 g) (Chg.refl _ _) (by exact rfl) _⟩
 case rest =>
 clear c1 f2; obtain ⟨H, hb1, hx1⟩ := hcut
 obtain ⟨w1, hw1⟩ : ∃ wA : World, wA = wc := ⟨_, rfl⟩
 subst hw1; have HB1 := Lib.hid hb1; clear hb1; have c1 := blk3 HB1.out
 go_upto_region 2 with (fail)
 go_cut [3] (fun v3 wx => ∃ r : Int, v3 = .int .i64 r ∧ 0 ≤ r ∧ r ≤ 255 ∧ Ext w1 wx)
 case first =>
  refine wp_region_ext (by kernel_rfl) (by kernel_rfl) ?_; have q2 := ExtW.cell c1.2.2
  repeat (first | go_big_quiet_step (fail) | quiet_step (fail))
  refine wpQuiet_nil ?_; intro w3 hw3; have hz3 := ExtW.outD hw3; clear hw3 q2
  go_wp2_with fail
  go_meet
  exact ⟨_, rfl, (and255 _).1, (and255 _).2, hz3⟩
 case rest =>
 obtain ⟨r, rfl, hr0, hr1, hx2⟩ := hcut
 obtain ⟨w2, hw2⟩ : ∃ wA : World, wA = wc := ⟨_, rfl⟩
 subst hw2; clear c1; have HB2 := Lib.hid (hx2.block HB1.out); have c2 := blk3 HB2.out
 by_cases hlt : i < code.length
 ·
  obtain ⟨k, rfl⟩ : ∃ k : Nat, i = k := ⟨i.toNat, by omega⟩
  have hkl : k < code.length := by omega
  have hrd2 := (hs.step (hx1.ext hx2)).rd; obtain ⟨b, off, rfl, hcell⟩ := bytes_at hrd2 k hkl; obtain ⟨hu0, hu1⟩ := hu code[k] (List.getElem_mem _); have f1 := fr_of HB2.out 1
  go_wp2_with fail
  refine wp_region_ext (by kernel_rfl) (by kernel_rfl) ?_; have q0 := ExtW.cell (c2.1); have q1 := ExtW.cell (c2.2.1)
  repeat (first | go_big_quiet_step (fail) | quiet_step (fail))
  refine wpQuiet_nil ?_; intro w4 hw4; have hz4 := ExtW.outD hw4; clear hw4 q0 q1; have c4 := blk3 (hz4.block HB2.out); have hcell4 := hz4.cell hcell; clear c2 hcell
  go_upto_region 4 with (fail)
  go_cut [3] (fun v3 wx => ∃ r : Int, v3 = .int .i64 r ∧ 0 ≤ r ∧ r ≤ 255 ∧ Ext w4 wx)
  case first =>
   refine wp_region_ext (by kernel_rfl) (by kernel_rfl) ?_; have q0 := ExtW.cell (c4.1); have q1 := ExtW.cell (c4.2.1); have q2 := ExtW.cell (hcell4)
   repeat (first | go_big_quiet_step (fail) | quiet_step (fail))
   refine wpQuiet_nil ?_; intro w5 hw5; have hz5 := ExtW.outD hw5; clear hw5 q0 q1 q2
   go_wp2_with fail
   go_meet
   exact ⟨_, rfl, (and255 _).1, (and255 _).2, hz5⟩
  case rest =>
  obtain ⟨r2, rfl, hr2, hr3, hx5⟩ := hcut
  obtain ⟨w5, hw5⟩ : ∃ wA : World, wA = wc := ⟨_, rfl⟩
  subst hw5; clear c4 hcell4 hr0 hr1; have HB5 := Lib.hid ((hz4.t hx5).block HB2.out); have c5 := blk3 HB5.out; have f5 := fr_of HB5.out 1; have hxx : Chg (at1 g) w w5 := hx1.ext (hx2.trans (hz4.t hx5))
  go_wp2_with fail
  go_ret
  refine ⟨r2, rfl, hr2, hr3, ⟨⟨(k : Int) + 1, H, by simpa using blk_set HB5.out 1 _, by omega, by omega⟩, hs.step (Chg.setC (S := at1 g) hxx (by exact rfl) _), hu⟩, Chg.setC (S := at1 g) hxx (by exact rfl) _⟩
 ·
  go_wp2_with fail
  refine wp_region_ext (by kernel_rfl) (by kernel_rfl) ?_; have q0 := ExtW.cell (c2.1); have q1 := ExtW.cell (c2.2.1)
  repeat (first | go_big_quiet_step (fail) | quiet_step (fail))
  refine wpQuiet_nil ?_; intro w4 hw4; have hz4 := ExtW.outD hw4; clear hw4 q0 q1; have hxx : Chg (at1 g) w w4 := hx1.ext (hx2.t hz4); have HB5 := Lib.hid (hz4.block HB2.out); clear c2
  go_wp2_with fail
  go_ret
  exact ⟨r, rfl, hr0, hr1, ⟨⟨i, H, HB5.out, hi0, hi1⟩, hs.step hxx, hu⟩, hxx⟩
set_option maxRecDepth 100000 in
set_option maxHeartbeats 2000000 in
theorem s_l1Below (g : Nat) (n : Int) (v : Value) (code : List Int) (w : World) (hc : Cur g v code w) :
  Calls Tryz.prog 87 #[.pointer (some ⟨g, 0, none⟩), .int .i64 n] w fun e w' => ∃ r : Int, e = .returned (.int .i64 r) ∧ 0 ≤ r ∧ (r < n ∨ r = 0) ∧ Cur g v code w' ∧ Chg (at1 g) w w' := by
 by_cases h0 : n ≤ 0
 ·
  go_enter Tryz.func87, Tryz.ntmps87
  go_wp2_with fail
  go_ret
  exact ⟨0, rfl, Int.le_refl _, .inr rfl, hc, Chg.refl _ _⟩
 ·
  go_enter Tryz.func87, Tryz.ntmps87
  by_cases h1 : n ≤ 256
  ·
   go_wp2_with fail
   refine (s_l1Byte g v code _ hc).mono ?_; rintro e w1 ⟨x, rfl, hx0, hx1, hc1, hz1⟩
   go_wp2_with fail
   go_ret
   have hp : 0 < n := by omega
   have hm1 := Int.emod_nonneg x (show n ≠ 0 by omega); have hm2 := Int.emod_lt_of_pos x hp; exact ⟨_, rfl, by first | exact hm1 | omega, .inl (by first | exact hm2 | omega), hc1, hz1⟩
  ·
   go_wp2_with fail
   refine (s_l1Byte g v code _ hc).mono ?_; rintro e w1 ⟨x, rfl, hx0, hx1, hc1, hz1⟩
   go_wp2_with fail
   refine (s_l1Byte g v code _ hc1).mono ?_; rintro e w2 ⟨y, rfl, hy0, hy1, hc2, hz2⟩
   go_wp2_with fail
   refine (s_l1Byte g v code _ hc2).mono ?_; rintro e w3 ⟨z, rfl, hu0, hu1, hc3, hz3⟩; have hp : 0 < n := by omega
   have hm1 := Int.emod_nonneg (x * 65536 + y * 256 + z) (show n ≠ 0 by omega); have hm2 := Int.emod_lt_of_pos (x * 65536 + y * 256 + z) hp; have HM := Lib.hid (And.intro hm1 hm2); clear hm1 hm2
   go_wp2_with fail
   go_ret
   exact ⟨_, rfl, HM.out.1, .inl HM.out.2, hc3, (hz1.t hz2).t hz3⟩
set_option maxHeartbeats 1000000 in
theorem s_l1Once (g : Nat) (n : Int) (v : Value) (code : List Int) (w : World) (hc : Cur g v code w) :
  Calls Tryz.prog 86 #[.pointer (some ⟨g, 0, none⟩), .int .i64 n] w fun e w' => ∃ b : Bool, e = .returned (.bool b) ∧ Cur g v code w' ∧ Chg (at1 g) w w' := by
 go_enter Tryz.func86, Tryz.ntmps86
 go_wp2_with fail
 refine (s_l1Below g n v code _ hc).mono ?_; rintro e w1 ⟨x, rfl, hx0, hx1, hc1, hz1⟩; clear hx1
 go_wp2_with fail
 go_ret
 exact ⟨_, rfl, hc1, hz1⟩
set_option maxHeartbeats 1000000 in
theorem s_l1Int (g : Nat) (l : List Int) (v : Value) (code : List Int) (w : World) (hc : Cur g v code w) (hl : 0 < l.length) (hm : l.length ≤ 1048576) :
  Calls Tryz.prog 166 #[.pointer (some ⟨g, 0, none⟩), .slice (some ⟨w.heap.size, 0, none⟩) l.length l.length] (w.alloc (.cells (l.flatMap intF).toArray 3)) fun e w' => ∃ r : Int, e = .returned (.int .i64 r) ∧ r ∈ l ∧ Cur g v code w' ∧ Chg (at1 g) w w' := by
 have ho := OwnF.lit intFlen w.heap.size 3 w l (Nat.le_refl _) (by unfold maxLen; omega); have hst : St g Rep.int _ _ l := St.ofF (hf := intFlen) ho hc.lt; have hca := hc.ext ((Ext.refl w).alloc (.cells (l.flatMap intF).toArray 3)); have hxa : Chg (at1 g) w (w.alloc (.cells (l.flatMap intF).toArray 3)) := Chg.ofExt ((Ext.refl w).alloc _); generalize w.alloc (.cells (l.flatMap intF).toArray 3) = wa at *; clear ho; generalize w.heap.size = ga at *
 go_enter Tryz.func166, Tryz.ntmps166
 go_wp2_with fail
 refine (s_l1Below g l.length v code _ hca).mono ?_; rintro e w1 ⟨x, rfl, hx0, hx1, hc1, hz1⟩; obtain ⟨k, rfl⟩ := Int.eq_ofNat_of_zero_le hx0; have hk : k < l.length := by omega
 clear hx1; obtain ⟨b, off, hbe, hcell⟩ := ints_at (hst.step hz1).rd k hk
 cases hbe
 rw [Nat.zero_add] at hcell
 go_wp2_with fail
 go_ret
 exact ⟨_, rfl, List.getElem_mem hk, hc1, hxa.trans hz1⟩
end
section
open Go.ChangeShapes Go.WideShapes Go.ChangeAt Go.RowKit Go.Deep
theorem rs_set {w : World} {b : Nat} {x0 x1 x2 x3 x4 : Value} {t : TypeId} (h : w.heap[b]? = some (.cells #[x0, x1, x2, x3, x4] t (0, 0))) (y0 y1 y2 y3 y4 : Value) :
  ∃ w5, w5 = ((((w.setCell ⟨b, 0, none⟩ y0).setCell ⟨b, 1, none⟩ y1).setCell ⟨b, 2, none⟩ y2).setCell ⟨b, 3, none⟩ y3).setCell ⟨b, 4, none⟩ y4 ∧ w5.heap[b]? = some (.cells #[y0, y1, y2, y3, y4] t (0, 0)) ∧ Chg (at1 b) w w5 := by
 refine ⟨_, rfl, by simpa using blk_set (blk_set (blk_set (blk_set (blk_set h 0 y0) 1 y1) 2 y2) 3 y3) 4 y4, ?_⟩; have q (o : Nat) (u : Value) {wq : World} (h : Chg (at1 b) w wq) := Chg.setC (S := at1 b) (p := ⟨b, o, none⟩) h rfl u; exact q _ _ (q _ _ (q _ _ (q _ _ (q _ _ (Chg.refl _ w)))))
theorem one_set {w : World} {b : Nat} {arr : Array Value} {t : TypeId} (h : w.heap[b]? = some (.cells arr t (0, 0))) (o : Nat) (u : Value) :
  ∃ w5, w5 = w.setCell ⟨b, o, none⟩ u ∧ w5.heap[b]? = some (.cells (arr.setIfInBounds o u) t (0, 0)) ∧ Chg (at1 b) w w5 := ⟨_, rfl, blk_set h o u, Chg.setC (S := at1 b) (p := ⟨b, o, none⟩) (Chg.refl _ w) rfl u⟩
end
section
open Go.ChangeShapes Go.WideShapes Go.ChangeAt Go.RowKit Go.Deep
theorem blk12 {w : World} {b : Nat} {x0 x1 x2 x3 x4 x5 x6 x7 x8 x9 x10 x11 : Value} {t : TypeId} {f : Nat × Nat} (h : w.heap[b]? = some (.cells #[x0, x1, x2, x3, x4, x5, x6, x7, x8, x9, x10, x11] t f)) :
  w.cell? ⟨b, 0, none⟩ = some x0 ∧ w.cell? ⟨b, 1, none⟩ = some x1 ∧ w.cell? ⟨b, 2, none⟩ = some x2 ∧ w.cell? ⟨b, 3, none⟩ = some x3 ∧ w.cell? ⟨b, 4, none⟩ = some x4 ∧ w.cell? ⟨b, 5, none⟩ = some x5 ∧ w.cell? ⟨b, 6, none⟩ = some x6 ∧ w.cell? ⟨b, 7, none⟩ = some x7 ∧ w.cell? ⟨b, 8, none⟩ = some x8 ∧ w.cell? ⟨b, 9, none⟩ = some x9 ∧ w.cell? ⟨b, 10, none⟩ = some x10 ∧ w.cell? ⟨b, 11, none⟩ = some x11 :=
 ⟨blk_cell h 0, blk_cell h 1, blk_cell h 2, blk_cell h 3, blk_cell h 4, blk_cell h 5, blk_cell h 6, blk_cell h 7, blk_cell h 8, blk_cell h 9, blk_cell h 10, blk_cell h 11⟩
structure Trc where
  code : Int
  steps : List Step
  pkt : Pkt
  deriving DecidableEq
def Trc.size (x : Trc) : Nat := x.steps.length + x.pkt.size
def Trc.rep : Rep Trc where
  cells := 12
  rd w cs x := ∃ v0 v1 v2, cs = [.int .i64 x.code, v0, .int .i64 x.pkt.kind, .int .i64 x.pkt.src, .int .i64 x.pkt.dst, v1, .int .i64 x.pkt.pi, .int .i64 x.pkt.hi, .int .i64 x.pkt.beta, .int .i64 x.pkt.rid, .int .i64 x.pkt.seq, v2] ∧ RdS Step.rep w v0 x.steps ∧ RdS Part.rep w v1 x.pkt.path.parts ∧ RdS Rep.byte w v2 x.pkt.pay
  len := by rintro w cs a ⟨v0, v1, v2, rfl, _⟩; rfl
  ext := by rintro w w' cs a e ⟨v0, v1, v2, rfl, h0, h1, h2⟩; exact ⟨v0, v1, v2, rfl, h0.ext e, h1.ext e, h2.ext e⟩
def Trc.ok (x : Trc) : Prop := I64 x.code ∧ (∀ y ∈ x.steps, Step.ok y) ∧ x.pkt.ok
def stepOwn : Own Step := Own.flat Step.f 3 Step.flen 86
def Trc.own (S : Nat → Prop) (w : World) (h0 h1 h2 : Value) (x : Trc) : Prop :=
  ∃ S0 S1 : Nat → Prop, stepOwn.own S0 w h0 x.steps ∧ Pkt.own S1 w h1 h2 x.pkt ∧ (∀ b, S0 b → S b) ∧ (∀ b, S1 b → S b) ∧ ∀ b, S0 b → ¬ S1 b
theorem Trc.own_kept {S T : Nat → Prop} {w w' : World} {h0 h1 h2 : Value} {x : Trc} (h : Trc.own S w h0 h1 h2 x) (c : Chg T w w') (hs : ∀ b, S b → ¬ T b) : Trc.own S w' h0 h1 h2 x := by
 obtain ⟨S0, S1, a, b, c0, c1, d⟩ := h; exact ⟨S0, S1, stepOwn.kept a c (fun k hk => hs k (c0 k hk)), Pkt.own_kept b c (fun k hk => hs k (c1 k hk)), c0, c1, d⟩
theorem Trc.own_ext {S : Nat → Prop} {w w' : World} {h0 h1 h2 : Value} {x : Trc} (h : Trc.own S w h0 h1 h2 x) (e : Ext w w') : Trc.own S w' h0 h1 h2 x :=
 Trc.own_kept h (Chg.ofExt (S := noB) e) (fun _ _ h => h)
theorem Trc.own_mono {S T : Nat → Prop} {w : World} {h0 h1 h2 : Value} {x : Trc} (h : Trc.own S w h0 h1 h2 x) (hs : ∀ b, S b → T b) : Trc.own T w h0 h1 h2 x := by
 obtain ⟨S0, S1, a, b, c0, c1, d⟩ := h; exact ⟨S0, S1, a, b, fun k hk => hs k (c0 k hk), fun k hk => hs k (c1 k hk), d⟩
theorem Trc.own_rd0 {S : Nat → Prop} {w : World} {h0 h1 h2 : Value} {x : Trc} (h : Trc.own S w h0 h1 h2 x) : RdS Step.rep w h0 x.steps := by
 obtain ⟨S0, S1, a, _⟩ := h; exact stepOwn.rd a
theorem Trc.own_rd1 {S : Nat → Prop} {w : World} {h0 h1 h2 : Value} {x : Trc} (h : Trc.own S w h0 h1 h2 x) : RdS Part.rep w h1 x.pkt.path.parts := by
 obtain ⟨S0, S1, _, b, _⟩ := h; exact Pkt.own_rd0 b
theorem Trc.own_rd2 {S : Nat → Prop} {w : World} {h0 h1 h2 : Value} {x : Trc} (h : Trc.own S w h0 h1 h2 x) : RdS Rep.byte w h2 x.pkt.pay := by
 obtain ⟨S0, S1, _, b, _⟩ := h; exact Pkt.own_rd1 b
theorem Trc.own_inb {S : Nat → Prop} {w : World} {h0 h1 h2 : Value} {x : Trc} (h : Trc.own S w h0 h1 h2 x) : Trc.own (fun b => S b ∧ b < w.heap.size) w h0 h1 h2 x := by
 obtain ⟨S0, S1, a, b, c0, c1, d⟩ := h; exact ⟨_, _, stepOwn.inb a, Pkt.own_inb b, fun k hk => ⟨c0 k hk.1, hk.2⟩, fun k hk => ⟨c1 k hk.1, hk.2⟩, fun k hk h2 => d k hk.1 h2.1⟩
def Trc.cnt (x : Trc) : Int := 3 * x.steps.length + x.pkt.cnt
def Trc.marked (k : Int) (x : Trc) : Trc := { x with steps := markL Step.mk' 3 k x.steps.length, pkt := Pkt.marked (k + 3 * x.steps.length) x.pkt }
theorem Trc.cnt_le {x : Trc} (h : x.size ≤ 1048576) : 0 ≤ x.cnt ∧ x.cnt ≤ 5242880 * 2 := by
 have h1 : x.pkt.size ≤ 1048576 := by unfold Trc.size at h; omega
 have h2 : x.steps.length ≤ 1048576 := by unfold Trc.size at h; omega
 have := Pkt.cnt_le h1; unfold Trc.cnt; omega
theorem Pkt.cnt_nn (x : Pkt) : 0 ≤ x.cnt := by unfold Pkt.cnt markN; omega
end
section
open Go.ChangeShapes Go.WideShapes Go.ChangeAt Go.RowKit Go.Deep
theorem blk_set4 {w : World} {b : Nat} {x0 x1 x2 x3 : Value} {t : TypeId} {f : Nat × Nat} (h : w.heap[b]? = some (.cells #[x0, x1, x2, x3] t f)) (y0 y1 y2 y3 : Value) :
  ((((w.setCell ⟨b, 0, none⟩ y0).setCell ⟨b, 1, none⟩ y1).setCell ⟨b, 2, none⟩ y2).setCell ⟨b, 3, none⟩ y3).heap[b]? = some (.cells #[y0, y1, y2, y3] t f) := by
 have := blk_set (blk_set (blk_set (blk_set h 0 y0) 1 y1) 2 y2) 3 y3
 simpa using this
theorem ext_set4 {a w : World} (h : Ext a w) {b : Nat} (hb : a.heap.size ≤ b) (y0 y1 y2 y3 : Value) : Ext a ((((w.setCell ⟨b, 0, none⟩ y0).setCell ⟨b, 1, none⟩ y1).setCell ⟨b, 2, none⟩ y2).setCell ⟨b, 3, none⟩ y3) :=
 (((h.setCell hb _).setCell hb _).setCell hb _).setCell hb _
end
section
open Go.ChangeShapes Go.WideShapes Go.ChangeAt Go.RowKit Go.Deep
section
variable {α : Type} {O : Own α} {a b : Nat} {w w' : World} {v : Value} {l : List α}
theorem Own.at1g {g : Nat} (h : O.own (rng a b) w v l) (c : Chg (at1 g) w w') (hg : g < a ∨ b ≤ g) : O.own (rng a b) w' v l :=
 O.kept h c (fun k hk e => by have e' : k = g := e; have h1 := hk.1; have h2 := hk.2; omega)
theorem Own.lo {a' : Nat} (h : O.own (rng a b) w v l) (ha : a' ≤ a) : O.own (rng a' b) w v l := O.mono h (fun _ hk => ⟨Nat.le_trans ha hk.1, hk.2⟩)
theorem Own.upTo {c : Nat} (h : O.own (rng a b) w v l) (hc : w.heap.size ≤ c) : O.own (rng a c) w v l := O.mono (O.inb h) (fun _ hk => ⟨hk.1.1, Nat.lt_of_lt_of_le hk.2 hc⟩)
theorem Own.stR {g : Nat} (h : O.own (rng a b) w v l) (hg : g < a ∨ b ≤ g) : St g O.rep w v l := fun _ c => O.rd (Own.at1g h c hg)
theorem Own.chgR {S : Nat → Prop} (h : O.own (rng a b) w v l) (c : Chg S w w') (hs : ∀ k, S k → k < a ∨ b ≤ k) : O.own (rng a b) w' v l :=
 O.kept h c (fun k hk e => by have h1 := hk.1; have h2 := hk.2; have := hs k e; omega)
end
def Own.keep {α : Type} (r : Rep α) : Own α where
  rep := r
  own S w v l := ∀ w', Chg (fun b => ¬ S b) w w' → RdS r w' v l
  rd h := h _ (Chg.refl _ _)
  mono h hs := fun w' c => h w' (c.mono (fun _ hk hS => hk (hs _ hS)))
  kept h c hs := fun w2 c2 => h w2 ((c.mono (fun b hb hS => hs b hS hb)).trans c2)
  nil _ := fun w' _ => RdS.nil _ w'
  inb h := fun w' c => h w' ⟨c.os, c.tape, c.output, c.size, fun k hk hn => c.block k hk (fun hh => hn (fun hS => hh ⟨hS, hk⟩))⟩
theorem Own.toKeep {α : Type} {O : Own α} {S : Nat → Prop} {w : World} {v : Value} {l : List α} (h : O.own S w v l) : (Own.keep O.rep).own S w v l := fun _ c => O.rd (O.kept h c (fun _ hb hn => hn hb))
theorem Own.ofFr {α : Type} {f : α → List Value} {n : Nat} {hf : ∀ a, (f a).length = n} {e : TypeId} {base m : Nat} {w : World} {v : Value} {l : List α} (h : OwnF f n base e w v l) (hm : w.heap.size ≤ m) : (Own.flat f n hf e).own (rng base m) w v l :=
 Own.mono _ (Own.ofF h) (fun _ hk => ⟨hk.1, Nat.lt_of_lt_of_le hk.2 hm⟩)
theorem Own.toF {α : Type} {f : α → List Value} {n : Nat} {hf : ∀ a, (f a).length = n} {e : TypeId} {a b : Nat} {w : World} {v : Value} {l : List α} (h : (Own.flat f n hf e).own (rng a b) w v l) : OwnF f n a e w v l := by
 obtain ⟨h1, h2⟩ := h; obtain ⟨h3, h4⟩ := h1; refine ⟨h3, ?_⟩
 rcases h4 with h4 | ⟨g, cap, cur, rfl, hb, hg, r⟩
 ·
  exact .inl h4
 ·
  exact .inr ⟨g, cap, cur, rfl, (h2 g rfl).1, hg, r⟩
section
variable {α β : Type} {n : Nat} {c : α → Value → List Value} {hc : ∀ a v, (c a v).length = n} {sub : α → List β} {e : TypeId} {I : Own β}
theorem nest_lit {w : World} (qs : List (Cap α)) (lo : Nat) (hlo : lo ≤ w.heap.size) (hm : qs.length ≤ maxLen)
  (hq : ∀ q ∈ qs, I.own q.set w q.val (sub q.dat) ∧ ∀ b, q.set b → lo ≤ b ∧ b < w.heap.size) (hd : ∀ (i j : Nat) (hi : i < qs.length) (hj : j < qs.length), i ≠ j → ∀ b, qs[i].set b → ¬ qs[j].set b) :
  (Own.nest n c hc sub e I).own (rng lo (w.heap.size + 1)) (w.alloc (.cells (qs.flatMap (capF c)).toArray e)) (.slice (some ⟨w.heap.size, 0, none⟩) qs.length qs.length) (qs.map (·.dat)) := by
 have ho := OwnF.lit (f := capF c) (n := n) (fun q => hc q.dat q.val) 0 e w qs (Nat.zero_le _) hm; refine ⟨qs, rfl, ho, fun k hk => ?_, fun q h => ⟨Own.ext (hq q h).1 ((Ext.refl w).alloc _), fun b hb => ?_⟩, hd⟩
 ·
  cases hk; exact ⟨hlo, Nat.lt_succ_self _⟩
 ·
  obtain ⟨h1, h2⟩ := (hq q h).2 b hb; refine ⟨⟨h1, by omega⟩, fun e => ?_, by simp; omega⟩; have : w.heap.size = b := by simpa [Value.ownBlock] using e
  omega
end
def KS {α : Type} (S : Nat → Prop) (r : Rep α) (w : World) (v : Value) (l : List α) : Prop := ∀ w', Chg S w w' → RdS r w' v l
theorem KS.rd {α : Type} {S : Nat → Prop} {r : Rep α} {w : World} {v : Value} {l : List α} (h : KS S r w v l) : RdS r w v l := h w (Chg.refl _ _)
theorem KS.step {α : Type} {S T : Nat → Prop} {r : Rep α} {w w' : World} {v : Value} {l : List α} (h : KS S r w v l) (c : Chg T w w') (hs : ∀ b, T b → S b) : KS S r w' v l := fun w2 c2 => h w2 ((c.mono hs).trans c2)
theorem KS.ext {α : Type} {S : Nat → Prop} {r : Rep α} {w w' : World} {v : Value} {l : List α} (h : KS S r w v l) (c : Ext w w') : KS S r w' v l := fun w2 c2 => h w2 ((Chg.ofExt c).trans c2)
theorem KS.wide {α : Type} {S T : Nat → Prop} {r : Rep α} {w : World} {v : Value} {l : List α} (h : KS S r w v l) (hs : ∀ b, T b → S b ∨ w.heap.size ≤ b) : KS T r w v l :=
 fun w2 c => h w2 ⟨c.os, c.tape, c.output, c.size, fun k hk hn => c.block k hk (fun ht => by rcases hs k ht with h1 | h1; exact hn h1; omega)⟩
theorem KS.ofOwn {α : Type} {O : Own α} {S T : Nat → Prop} {w : World} {v : Value} {l : List α} (h : O.own S w v l) (hs : ∀ b, T b → ¬ S b) : KS T O.rep w v l := fun _ c => O.rd (O.kept h c (fun b hb ht => hs b ht hb))
theorem KS.ofF {α : Type} {n : Nat} {f : α → List Value} {hf : ∀ a, (f a).length = n} {base : Nat} {e : TypeId} {w : World} {v : Value} {l : List α} {T : Nat → Prop} (h : OwnF f n base e w v l) (hs : ∀ b, T b → b < base ∨ w.heap.size ≤ b) : KS T (Rep.flat n f hf) w v l :=
 fun _ c => OwnF.rd (h.chg c (fun k hk e => by have h1 := (h.block k hk).1; have h2 := (h.block k hk).2; rcases hs k e with h3 | h3 <;> omega))
theorem KS.st {α : Type} {S : Nat → Prop} {r : Rep α} {g : Nat} {w : World} {v : Value} {l : List α} (h : KS S r w v l) (hg : S g) : St g r w v l := fun w' c => h w' (c.mono (fun b hb => by have e : b = g := hb; rw [e]; exact hg))
end
section
open Go.ChangeShapes Go.WideShapes Go.ChangeAt Go.RowKit Go.Deep
theorem two_set {w : World} {b : Nat} {x0 x1 : Value} {t : TypeId} (h : w.heap[b]? = some (.cells #[x0, x1] t (0, 0))) (y0 y1 : Value) :
  ∃ w5, w5 = (w.setCell ⟨b, 0, none⟩ y0).setCell ⟨b, 1, none⟩ y1 ∧ w5.heap[b]? = some (.cells #[y0, y1] t (0, 0)) ∧ Chg (at1 b) w w5 :=
 ⟨_, rfl, by simpa using blk_set (blk_set h 0 y0) 1 y1, Chg.setC (S := at1 b) (p := ⟨b, 1, none⟩) (Chg.setC (S := at1 b) (p := ⟨b, 0, none⟩) (Chg.refl _ _) rfl y0) rfl y1⟩
theorem three_set {w : World} {b : Nat} {x0 x1 x2 : Value} {t : TypeId} (h : w.heap[b]? = some (.cells #[x0, x1, x2] t (0, 0))) (y0 y1 y2 : Value) :
  ∃ w5, w5 = ((w.setCell ⟨b, 0, none⟩ y0).setCell ⟨b, 1, none⟩ y1).setCell ⟨b, 2, none⟩ y2 ∧ w5.heap[b]? = some (.cells #[y0, y1, y2] t (0, 0)) ∧ Chg (at1 b) w w5 :=
 ⟨_, rfl, blk_set3 h y0 y1 y2, Chg.setC (S := at1 b) (p := ⟨b, 2, none⟩) (Chg.setC (S := at1 b) (p := ⟨b, 1, none⟩) (Chg.setC (S := at1 b) (p := ⟨b, 0, none⟩) (Chg.refl _ _) rfl y0) rfl y1) rfl y2⟩
structure DSt (g : Nat) (cv : Value) (cd : List Int) (w wr : World) : Prop where
  c : Cur g cv cd wr
  x : Chg (at1 g) w wr
  c0 : Cur g cv cd w
theorem DSt.draw {g : Nat} {cv : Value} {cd : List Int} {w wr w' : World} (s : DSt g cv cd w wr) (hc : Cur g cv cd w') (hx : Chg (at1 g) wr w') : DSt g cv cd w w' := ⟨hc, s.x.trans hx, s.c0⟩
theorem DSt.ext {g : Nat} {cv : Value} {cd : List Int} {w wr w' : World} (s : DSt g cv cd w wr) (hx : Ext wr w') : DSt g cv cd w w' := ⟨s.c.ext hx, s.x.ext hx, s.c0⟩
theorem DSt.put {g : Nat} {cv : Value} {cd : List Int} {w wr w' : World} (s : DSt g cv cd w wr) {S : Nat → Prop} (hx : Chg S wr w') (hS : ∀ k, S k → w.heap.size ≤ k) : DSt g cv cd w w' := by
 have hup := Chg.up s.x hx (fun i hi => .inr (hS i hi)); exact ⟨Cur.kept s.c0 s.c hx (fun h => by have h1 := hS _ h; have h2 := s.c0.lt; omega) hup, hup, s.c0⟩
end
section
open Go.ChangeShapes Go.WideShapes Go.ChangeAt Go.RowKit Go.Deep
section
variable {P : Program} {ops : Array Oper} {Q : Exit → Act → World → Prop} {C : World → Prop}
def wpAnyX (P : Program) (ops : Array Oper) (Q : Exit → Act → World → Prop) (C : World → Prop) (X : Nat → Bool) : Nat → Array Bool → Act → World → Prop
  | 0, listed, a, w => Region.ready .any ops listed = [] ∧ Q .normal a w
  | fuel + 1, listed, a, w =>
    (Region.ready .any ops listed = [] → Q .normal a w) ∧
    ∀ i ∈ Region.ready .any ops listed, wpOp P ops Q i (fun a' w' => (X i = false → C w') ∧ wpAnyX P ops Q C X fuel (listed.setIfInBounds i true) a' w') a w
theorem wpAny_of_X {X : Nat → Bool} : ∀ (fuel : Nat) (listed : Array Bool) (a : Act) (w : World), wpAnyX P ops Q C X fuel listed a w → wpAny P .any ops Q fuel listed a w
 | 0, _, _, _, h => h
 | fuel + 1, _, _, _, h => ⟨h.1, fun i hi => wpOp_mono (fun a' w' h' => wpAny_of_X fuel _ a' w' h'.2) (h.2 i hi)⟩
theorem wpAnyX_first {X : Nat → Bool} {i : Nat} {oi : Oper} {v : Value} {n : Nat} (hi : ops[i]? = some oi) (hsel : ∀ (j : Nat) (o : Oper) cs b, ops[j]? = some o → o.op ≠ .select cs b)
  (hQ : ∀ c a w, Q (.panic c) (a.put oi.dst v) w → Q (.panic c) a w) :
  ∀ (fuel : Nat) (listed : Array Bool) (a : Act) (w : World), Closed ops listed →
   (∀ j oj, ops[j]? = some oj → j ≠ i → listed.getD j true = false → (∀ e ∈ oj.after, Region.binds .any e = true → e.on ≠ i) → oi.apart ops oj = true) →
   (∀ j oj, ops[j]? = some oj → j ≠ i → listed.getD j true = false → X j = false ∨ waitsT ops n j i = true) →
   i ∈ Region.ready .any ops listed → YieldsIf P ops C oi v a → C w →
   wpAnyX P ops Q C X fuel (listed.setIfInBounds i true) (a.put oi.dst v) w → wpAnyX P ops Q C X (fuel + 1) listed a w := by
 intro fuel
 induction fuel with
 | zero =>
  intro listed a w _ _ _ hr hy hC H; refine ⟨fun h => (by rw [h] at hr; cases hr), fun j hj => ?_⟩
  by_cases hji : j = i
  ·
   subst hji; exact hy.wpOp hi hC ⟨fun _ => hC, H⟩
  ·
   have := ready_mono hj hji; rw [H.1] at this
   cases this
 | succ fuel ih =>
  intro listed a w hc hfree hX hr hy hC H; refine ⟨fun h => (by rw [h] at hr; cases hr), fun j hj => ?_⟩
  by_cases hji : j = i
  ·
   subst hji; exact hy.wpOp hi hC ⟨fun _ => hC, H⟩
  ·
   have h1 := H.2 j (ready_mono hj hji); obtain ⟨hjun, oj, hoj, hall⟩ := mem_ready.1 hj; have h0 := (mem_ready.1 hr).1
   have hXj : X j = false := by
    rcases hX j oj hoj hji hjun with h4 | h4
    ·
     exact h4
    ·
     exact absurd hj (hc.not_ready h4 h0)
   have hnot : ∀ e ∈ oj.after, Region.binds .any e = true → e.on ≠ i := fun e he hb heq => by
    have h1 := hall e he hb; rw [heq] at h1
    rcases Nat.lt_or_ge i listed.size with h' | h'
    ·
     simp [h'] at h0 h1; rw [h0] at h1; cases h1
    ·
     simp [Array.getElem?_eq_none h'] at h1
   have h2 := wpOp_putIf hoj (hfree j oj hoj hji hjun hnot) (fun cs b => hsel i oi cs b hi) (fun cs b => hsel j oj cs b hoj) hQ hy h1
   have hstep : ∀ k, (listed.setIfInBounds j true).getD k true = false → listed.getD k true = false := fun k hun => by
    by_cases hjk : j = k
    ·
     subst hjk; exact hjun
    ·
     rw [getD_set_ne true hjk] at hun; exact hun
   refine wpOp_mono (fun a' w' h3 => ⟨h3.2.1, ih (listed.setIfInBounds j true) a' w' (hc.set hj) (fun k ok hk hki hun hno => hfree k ok hk hki (hstep k hun) hno) (fun k ok hok hk hun => hX k ok hok hk (hstep k hun)) (ready_mono hr (Ne.symm hji)) h3.1 (h3.2.1 hXj) ?_⟩) h2; rw [Array.setIfInBounds_comm _ _ hji]; exact h3.2.2
theorem wpAnyX_done {X : Nat → Bool} {listed : Array Bool} {a : Act} {w : World} (hr : Region.ready .any ops listed = []) (h : Q .normal a w) : ∀ fuel, wpAnyX P ops Q C X fuel listed a w
 | 0 => ⟨hr, h⟩
 | _ + 1 => ⟨fun _ => h, by rw [hr]; simp⟩
def lastX (ops : Array Oper) : List Nat → Array Bool → Bool
  | [], listed => (Region.ready .any ops listed).isEmpty
  | i :: l, listed => (Region.ready .any ops listed == [i]) && lastX ops l (listed.setIfInBounds i true)
def plainX (ops : Array Oper) (xs : List Nat) (listed : Array Bool) (i : Nat) : Bool := (List.range ops.size).all fun j => j == i || listed.getD j true || !xs.contains j || waitsT ops ops.size j i
def schedX (ops : Array Oper) (xs : List Nat) : List (Nat × Bool) → Array Bool → Bool
  | [], listed => lastX ops xs listed
  | (i, true) :: rest, listed => ((ops[i]?).map fun o => plainOp o.op).getD false && (Region.ready .any ops listed).contains i && Region.free .any ops listed i && plainX ops xs listed i && schedX ops xs rest (listed.setIfInBounds i true)
  | (i, false) :: rest, listed => (Region.ready .any ops listed == [i]) && !xs.contains i && schedX ops xs rest (listed.setIfInBounds i true)
def wpSchedX (P : Program) (ops : Array Oper) (Q : Exit → Act → World → Prop) (C : World → Prop) (xs : List Nat) : List (Oper × Bool) → Act → World → Prop
  | [], a, w => wpList P ops Q (pickOps ops xs) a w
  | (o, true) :: rest, a, w => if Region.wanted o (yielded ops a.tmps) then o.quiet P a C (fun a' => wpSchedX P ops Q C xs rest a' w) else wpSchedX P ops Q C xs rest (a.put o.dst undef) w
  | (o, false) :: rest, a, w => wpList P ops (Exit.then (fun a' w' => C w' ∧ wpSchedX P ops Q C xs rest a' w') Q) [o] a w
theorem wpList_op {o : Oper} {l : List Oper} {a : Act} {w : World} {i : Nat} (ho : ops[i]? = some o) (h : wpList P ops Q (o :: l) a w) : wpOp P ops Q i (fun a' w' => wpList P ops Q l a' w') a w := by
 unfold wpOp; simp only [ho]; simp only [wpList] at h; exact h
theorem wpAnyX_last {X : Nat → Bool} (hX : ∀ i, X i = false → C = C) (hall : ∀ i w, X i = true → (X i = false → C w)) :
  ∀ (xs : List Nat) (fuel : Nat) (listed : Array Bool) (a : Act) (w : World), (∀ i ∈ xs, X i = true) → xs.length ≤ fuel → lastX ops xs listed = true → wpList P ops Q (pickOps ops xs) a w → wpAnyX P ops Q C X fuel listed a w
 | [], fuel, listed, a, w, _, _, hB, h => wpAnyX_done (by simpa [lastX] using hB) (by simpa [pickOps, wpList] using h) fuel
 | i :: l, 0, _, _, _, _, hf, _, _ => absurd hf (by simp)
 | i :: l, fuel + 1, listed, a, w, hx, hf, hB, h => by
  simp only [lastX, Bool.and_eq_true] at hB; obtain ⟨hr, hB'⟩ := hB; have hr' : Region.ready .any ops listed = [i] := by simpa using hr
  have hm : i ∈ Region.ready .any ops listed := by rw [hr']; simp
  obtain ⟨_, oi, hoi, _⟩ := mem_ready.1 hm; refine ⟨fun h0 => absurd (hr' ▸ h0) (by simp), fun j hj => ?_⟩; obtain rfl : j = i := by rw [hr'] at hj; simpa using hj
  have hp : pickOps ops (j :: l) = oi :: pickOps ops l := by simp [pickOps, hoi]
  rw [hp] at h; exact wpOp_mono (fun a' w' hh => ⟨hall j w' (hx j (by simp)), wpAnyX_last hX hall l fuel _ a' w' (fun k hk => hx k (by simp [hk])) (by simpa using hf) hB' hh⟩) (wpList_op hoi h)
theorem wpAnyX_sched (hs : Region.noSelect ops = true) (hQ : ∀ c (a : Act) d v w, Q (.panic c) (a.put d v) w → Q (.panic c) a w) (xs : List Nat) :
  ∀ (l : List (Nat × Bool)) (fuel : Nat) (listed : Array Bool) (a : Act) (w : World), l.length + xs.length ≤ fuel → Closed ops listed → schedX ops xs l listed = true → C w → wpSchedX P ops Q C xs (schedOps ops l) a w → wpAnyX P ops Q C (fun j => xs.contains j) fuel listed a w
 | [], fuel, listed, a, w, hf, _, hB, _, h => wpAnyX_last (fun _ _ => rfl) (fun i _ h1 h2 => by rw [h1] at h2; cases h2) xs fuel listed a w (fun i hi => by simpa using hi) (by simpa using hf) hB h
 | (i, t) :: rest, 0, _, _, _, hf, _, _, _, _ => absurd hf (by simp)
 | (i, true) :: rest, fuel + 1, listed, a, w, hf, hc, hB, hC, h => by
  simp only [schedX, Bool.and_eq_true] at hB; obtain ⟨⟨⟨⟨hp, hr⟩, hfr⟩, hpx⟩, hB'⟩ := hB; have hr2 : i ∈ Region.ready .any ops listed := by simpa using hr
  have hlx : ∀ j oj, ops[j]? = some oj → j ≠ i → listed.getD j true = false → xs.contains j = false ∨ waitsT ops ops.size j i = true := by
   intro j oj hoj hji hun; unfold plainX at hpx; have := List.all_eq_true.1 hpx j (List.mem_range.2 (Array.getElem?_eq_some_iff.1 hoj).1); simp only [Bool.or_eq_true, beq_iff_eq, Bool.not_eq_true'] at this
   rcases this with ((h1 | h1) | h1) | h1
   ·
    exact absurd h1 hji
   ·
    rw [h1] at hun; cases hun
   ·
    exact .inl h1
   ·
    exact .inr h1
  cases ho : ops[i]? with
  | none => simp [ho] at hp
  | some o =>
   have hp' : plainOp o.op = true := by simpa [ho] using hp
   have hso : schedOps ops ((i, true) :: rest) = (o, true) :: schedOps ops rest := by simp [schedOps, ho]
   rw [hso] at h; simp only [wpSchedX] at h; have hl : rest.length + xs.length ≤ fuel := by simp at hf; omega
   by_cases hw : Region.wanted o (yielded ops a.tmps) = true
   ·
    rw [if_pos hw] at h; obtain ⟨v, hv, hn⟩ := h; exact wpAnyX_first ho (Region.noSelect_spec hs) (fun c a w => hQ c a _ _ w) fuel listed a w hc (Region.free_spec ho hfr) hlx hr2 (yieldsIf_of_quiet hp' hw hv) hC (wpAnyX_sched hs hQ xs rest fuel _ _ _ hl (hc.set hr2) hB' hC hn)
   ·
    rw [if_neg hw] at h; exact wpAnyX_first (v := undef) ho (Region.noSelect_spec hs) (fun c a w => hQ c a _ _ w) fuel listed a w hc (Region.free_spec ho hfr) hlx hr2 (.inr ⟨by simpa using hw, rfl⟩) hC (wpAnyX_sched hs hQ xs rest fuel _ _ _ hl (hc.set hr2) hB' hC h)
 | (i, false) :: rest, fuel + 1, listed, a, w, hf, hc, hB, hC, h => by
  simp only [schedX, Bool.and_eq_true] at hB; obtain ⟨⟨hr, hx⟩, hB'⟩ := hB; have hr' : Region.ready .any ops listed = [i] := by simpa using hr
  have hm : i ∈ Region.ready .any ops listed := by rw [hr']; simp
  obtain ⟨_, oi, hoi, _⟩ := mem_ready.1 hm; have hso : schedOps ops ((i, false) :: rest) = (oi, false) :: schedOps ops rest := by simp [schedOps, hoi]
  rw [hso] at h; simp only [wpSchedX] at h; refine ⟨fun h0 => absurd (hr' ▸ h0) (by simp), fun j hj => ?_⟩; obtain rfl : j = i := by rw [hr'] at hj; simpa using hj
  exact wpOp_mono (fun a' w' hh => ⟨fun _ => hh.1, wpAnyX_sched hs hQ xs rest fuel _ _ _ (by simp at hf; omega) (hc.set hm) hB' hh.1 hh.2⟩) (wpList_one hoi h)
def wpBlocksX (P : Program) (ops : Array Oper) (Q : Exit → Act → World → Prop) (C : World → Prop) (xs : List Nat) : List (List Nat × Nat) → List Nat → Act → World → Prop
  | [], tail, a, w => wpQuiet P ops C (fun a' => wpList P ops Q (pickOps ops xs) a' w) (pickOps ops tail) a
  | (l1, s) :: bs, tail, a, w => wpQuiet P ops C (fun a' => wpList P ops (Exit.then (fun a2 w2 => C w2 ∧ wpBlocksX P ops Q C xs bs tail a2 w2) Q) (pickOps ops [s]) a' w) (pickOps ops l1) a
theorem wpSchedX_quiet {xs : List Nat} {rest : List (Oper × Bool)} {w : World} : ∀ (l1 : List Oper) (a : Act), wpQuiet P ops C (fun a' => wpSchedX P ops Q C xs rest a' w) l1 a → wpSchedX P ops Q C xs (l1.map (fun o => (o, true)) ++ rest) a w
 | [], _, h => h
 | o :: l1, a, h => by
  simp only [List.map_cons, List.cons_append, wpSchedX, wpQuiet] at h ⊢
  by_cases hw : Region.wanted o (yielded ops a.tmps) = true
  ·
   rw [if_pos hw] at h ⊢
   obtain ⟨v, hv, hn⟩ := h; exact ⟨v, hv, wpSchedX_quiet l1 _ hn⟩
  ·
   rw [if_neg hw] at h ⊢
   exact wpSchedX_quiet l1 _ h
theorem wpSchedX_blocks {xs : List Nat} : ∀ (bs : List (List Nat × Nat)) (tail : List Nat), (∀ b ∈ bs, b.2 < ops.size) → ∀ (a : Act) (w : World), wpBlocksX P ops Q C xs bs tail a w → wpSchedX P ops Q C xs (schedOps ops (blocks bs tail)) a w
 | [], tail, _, a, w, h => by
  simp only [blocks, schedOps_plain]; have := wpSchedX_quiet (Q := Q) (xs := xs) (rest := []) (w := w) (pickOps ops tail) a h
  simpa using this
 | (l1, s) :: bs, tail, hb, a, w, h => by
  have hs : s < ops.size := hb (l1, s) (by simp); have ho : ops[s]? = some ops[s] := by simp [hs]
  have hso : schedOps ops ((s, false) :: blocks bs tail) = (ops[s], false) :: schedOps ops (blocks bs tail) := by simp [schedOps, ho]
  have hps : pickOps ops [s] = [ops[s]] := by simp [pickOps, ho]
  simp only [blocks, schedOps_append, schedOps_plain, hso]; refine wpSchedX_quiet (pickOps ops l1) a (wpQuiet_mono (fun a' h' => ?_) _ _ h); rw [hps] at h'
  have hm : ∀ e a2 w2, Exit.then (fun a2 w2 => C w2 ∧ wpBlocksX P ops Q C xs bs tail a2 w2) Q e a2 w2 → Exit.then (fun a2 w2 => C w2 ∧ wpSchedX P ops Q C xs (schedOps ops (blocks bs tail)) a2 w2) Q e a2 w2 := by
   intro e a2 w2 hh
   cases e with
   | normal => exact ⟨hh.1, wpSchedX_blocks bs tail (fun b hbm => hb b (by simp [hbm])) a2 w2 hh.2⟩
   | _ => exact hh
  exact wpList_mono hm h'
theorem wp_region_fin {id : Nat} {a : Act} {w : World} (S : Nat → Prop) (bs : List (List Nat × Nat)) (tail xs : List Nat) (hm : P.follows .mixedOrders = true) (hs : Region.noSelect ops = true)
  (hB : (decide ((blocks bs tail).length + xs.length ≤ ops.size) && bs.all (fun b => decide (b.2 < ops.size)) && schedX ops xs (blocks bs tail) (Array.replicate ops.size false)) = true)
  (h : wpBlocksX P ops (NoPanic Q) (fun w1 => ∃ x : ChgSW S w, w1 = x.w') xs bs tail a w.drew) : (Code.region id ops true).wp P Q a w := by
 simp only [Bool.and_eq_true, List.all_eq_true] at hB; obtain ⟨⟨h1, h2⟩, h3⟩ := hB; refine wp_region_noPanic ?_; exact wp_region_any hm (wpAny_of_X _ _ _ _ (wpAnyX_sched (C := fun w1 => ∃ x : ChgSW S w, w1 = x.w') hs (fun _ _ _ _ _ h => h) xs (blocks bs tail) _ _ _ _ (of_decide_eq_true h1) (Closed.start _) h3 ⟨⟨_, Chg.ofExt (Ext.refl w).drew⟩, rfl⟩ (wpSchedX_blocks bs tail (fun b hb => of_decide_eq_true (h2 b hb)) a w.drew h)))
end
end
section
open Go.ChangeShapes Go.WideShapes Go.ChangeAt Go.RowKit Go.Deep
set_option maxRecDepth 100000 in
set_option maxHeartbeats 2000000 in
theorem s_l3Word (g : Nat)  (cv : Value) (cd : List Int) (w : World) (hc : Cur g cv cd w) :
  Calls Tryz.prog 105 #[.pointer (some ⟨g, 0, none⟩)] w fun e w' => ∃ r : Int, e = .returned (.int .i64 r) ∧ -1 ≤ r ∧ r ≤ 2147483648 ∧ Cur g cv cd w' ∧ Chg (at1 g) w w' := by
 go_enter Tryz.func105, Tryz.ntmps105
 go_wp2_with fail
 refine (s_l1Once g (10) _ _ _ hc).mono ?_; rintro e w1 ⟨b, rfl, hc1, hz1⟩
 cases b
 case true =>
  go_wp2_with fail
  refine (s_l1Int g [-1, 2147483647, 2147483648] _ _ _ hc1 (by decide) (by decide)).mono ?_; rintro e w2 ⟨r, rfl, hmr, hc2, hz2⟩; have hbr : -1 ≤ r ∧ r ≤ 2147483648 := by simp at hmr; omega
  obtain ⟨hr0, hr1⟩ := hbr; clear hmr
  go_wp2_with fail
  go_ret
  exact ⟨r, rfl, by omega, by omega, hc2, (hz1.t hz2)⟩
 case false =>
  go_wp2_with fail
  refine (s_l1Once g (4) _ _ _ hc1).mono ?_; rintro e w3 ⟨b2, rfl, hc3, hz3⟩
  cases b2
  case true =>
   go_wp2_with fail
   refine (s_l1Int g [0, 1, 2147483646] _ _ _ hc3 (by decide) (by decide)).mono ?_; rintro e w4 ⟨r, rfl, hmr, hc4, hz4⟩; have hbr : 0 ≤ r ∧ r ≤ 2147483646 := by simp at hmr; omega
   obtain ⟨hr0, hr1⟩ := hbr; clear hmr
   go_wp2_with fail
   go_ret
   exact ⟨r, rfl, by omega, by omega, hc4, ((hz1.t hz3).t hz4)⟩
  case false =>
   go_wp2_with fail
   refine (s_l1Below g (1000000) _ _ _ hc3).mono ?_; rintro e w5 ⟨x, rfl, hx0, hx1, hc5, hz5⟩; have hx2 : x < 1000000 := by omega
   clear hx1
   go_wp2_with fail
   refine (s_l1Below g (2000) _ _ _ hc5).mono ?_; rintro e w6 ⟨y, rfl, hy0, hy1, hc6, hz6⟩; have hy2 : y < 2000 := by omega
   clear hy1; have hp0 : 0 ≤ x * y := Int.mul_nonneg hx0 hy0; have hp1 : x * y ≤ 999999 * 1999 := Int.mul_le_mul (by omega) (by omega) hy0 (by decide)
   go_wp2_with fail
   go_ret
   exact ⟨_, rfl, by omega, by omega, hc6, (((hz1.t hz3).t hz5).t hz6)⟩
end
section
open Go.ChangeShapes Go.WideShapes Go.ChangeAt Go.RowKit Go.Deep
def revParts (l : List Part) : List Part := (l.map revPart).reverse
def revPath (x : Pth) : Pth := ⟨revParts x.parts⟩
end
section
open Go.ChangeShapes Go.WideShapes Go.ChangeAt Go.RowKit Go.Deep
def ASd.mk' (k : Int) : ASd := ⟨k, decide ((k + 1) % 3 = 0), k + 1 + 1⟩
theorem core_mark (k : Int) (_ : 0 ≤ k) : ((k + 1) % 3 == 0) = decide ((k + 1) % 3 = 0) := by
 by_cases e : (k + 1) % 3 = 0 <;> simp [e]
def asOwn : Own ASd := Own.flat ASd.f 3 ASd.flen 198
def lnkOwn : Own Lnk := Own.flat Lnk.f 5 Lnk.flen 156
def Topo.own (S : Nat → Prop) (w : World) (h0 h1 : Value) (x : Topo) : Prop :=
  ∃ S0 S1 : Nat → Prop, asOwn.own S0 w h0 x.ases ∧ lnkOwn.own S1 w h1 x.links ∧ (∀ b, S0 b → S b) ∧ (∀ b, S1 b → S b) ∧ ∀ b, S0 b → ¬ S1 b
theorem Topo.own_kept {S T : Nat → Prop} {w w' : World} {h0 h1 : Value} {x : Topo} (h : Topo.own S w h0 h1 x) (c : Chg T w w') (hs : ∀ b, S b → ¬ T b) : Topo.own S w' h0 h1 x := by
 obtain ⟨S0, S1, a, b, c0, c1, d⟩ := h; exact ⟨S0, S1, asOwn.kept a c (fun k hk => hs k (c0 k hk)), lnkOwn.kept b c (fun k hk => hs k (c1 k hk)), c0, c1, d⟩
theorem Topo.own_ext {S : Nat → Prop} {w w' : World} {h0 h1 : Value} {x : Topo} (h : Topo.own S w h0 h1 x) (e : Ext w w') : Topo.own S w' h0 h1 x :=
 Topo.own_kept h (Chg.ofExt (S := noB) e) (fun _ _ h => h)
theorem Topo.own_mono {S T : Nat → Prop} {w : World} {h0 h1 : Value} {x : Topo} (h : Topo.own S w h0 h1 x) (hs : ∀ b, S b → T b) : Topo.own T w h0 h1 x := by
 obtain ⟨S0, S1, a, b, c0, c1, d⟩ := h; exact ⟨S0, S1, a, b, fun k hk => hs k (c0 k hk), fun k hk => hs k (c1 k hk), d⟩
theorem Topo.own_rd0 {S : Nat → Prop} {w : World} {h0 h1 : Value} {x : Topo} (h : Topo.own S w h0 h1 x) : RdS ASd.rep w h0 x.ases := by
 obtain ⟨S0, S1, a, _⟩ := h; exact asOwn.rd a
theorem Topo.own_rd1 {S : Nat → Prop} {w : World} {h0 h1 : Value} {x : Topo} (h : Topo.own S w h0 h1 x) : RdS Lnk.rep w h1 x.links := by
 obtain ⟨S0, S1, _, b, _⟩ := h; exact lnkOwn.rd b
theorem Topo.own_inb {S : Nat → Prop} {w : World} {h0 h1 : Value} {x : Topo} (h : Topo.own S w h0 h1 x) : Topo.own (fun b => S b ∧ b < w.heap.size) w h0 h1 x := by
 obtain ⟨S0, S1, a, b, c0, c1, d⟩ := h; exact ⟨_, _, asOwn.inb a, lnkOwn.inb b, fun k hk => ⟨c0 k hk.1, hk.2⟩, fun k hk => ⟨c1 k hk.1, hk.2⟩, fun k hk h2 => d k hk.1 h2.1⟩
theorem OwnF.apartT {α β : Type} {n m : Nat} {f : α → List Value} {f' : β → List Value} {base base' : Nat} {e e' : TypeId} {w : World} {v v' : Value} {l : List α} {l' : List β} (h : OwnF f n base e w v l) (h' : OwnF f' m base' e' w v' l') (hne : e ≠ e') {b : Nat} (hb : v.ownBlock = some b) : v'.ownBlock ≠ some b := by
 rcases h.2 with ⟨rfl, _⟩ | ⟨g, cap, cur, rfl, _, hg, _⟩
 ·
  simp [Value.ownBlock] at hb
 ·
  have : g = b := by simpa [Value.ownBlock] using hb
  subst this; exact OwnF.ne h' hg (fun x => hne x.symm)
theorem Topo.own_of {base : Nat} {w : World} {u1 u2 : Value} {x : Topo} (o1 : OwnF ASd.f 3 base 198 w u1 x.ases) (o2 : OwnF Lnk.f 5 base 156 w u2 x.links) : Topo.own (rng base w.heap.size) w u1 u2 x :=
 ⟨fun b => u1.ownBlock = some b, fun b => u2.ownBlock = some b, ⟨o1.to0, fun _ h => h⟩, ⟨o2.to0, fun _ h => h⟩, fun b hb => o1.block b hb, fun b hb => o2.block b hb, fun _ hb h2 => OwnF.apartT o1 o2 (by decide) hb h2⟩
def Topo.cnt (x : Topo) : Int := 3 * x.ases.length + 5 * x.links.length
def Topo.marked (k : Int) (x : Topo) : Topo := ⟨markL ASd.mk' 3 k x.ases.length, markL Lnk.mk' 5 (k + 3 * x.ases.length) x.links.length⟩
theorem Topo.cnt_le {x : Topo} (h : x.size ≤ 1048576) : 0 ≤ x.cnt ∧ x.cnt ≤ 5242880 := by
 unfold Topo.size at h; unfold Topo.cnt; omega
end
end Go.Proofs.YtcpfmhgfaliemaaGreat
