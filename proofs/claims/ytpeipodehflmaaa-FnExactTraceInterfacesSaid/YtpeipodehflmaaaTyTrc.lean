/- The data of traces, how they read, what they own, and the contracts of the laws' helper functions over them. No condition but the bounds that each theorem names. -/
import Derived.Test.YtpeipodehflmaaaTyPkt
import Derived.Test.YtpeipodehflmaaaTyStep
namespace Go.Proofs.Ytpeipodehflmaaa
open Go.ChangeShapes Go.WideShapes Go.ChangeAt Go.RowKit Go.Deep

theorem blk12 {w : World} {b : Nat} {x0 x1 x2 x3 x4 x5 x6 x7 x8 x9 x10 x11 : Value} {t : TypeId} {f : Nat × Nat} (h : w.heap[b]? = some (.cells #[x0, x1, x2, x3, x4, x5, x6, x7, x8, x9, x10, x11] t f)) :
    w.cell? ⟨b, 0, none⟩ = some x0 ∧ w.cell? ⟨b, 1, none⟩ = some x1 ∧ w.cell? ⟨b, 2, none⟩ = some x2 ∧ w.cell? ⟨b, 3, none⟩ = some x3 ∧ w.cell? ⟨b, 4, none⟩ = some x4 ∧ w.cell? ⟨b, 5, none⟩ = some x5 ∧ w.cell? ⟨b, 6, none⟩ = some x6 ∧ w.cell? ⟨b, 7, none⟩ = some x7 ∧ w.cell? ⟨b, 8, none⟩ = some x8 ∧ w.cell? ⟨b, 9, none⟩ = some x9 ∧ w.cell? ⟨b, 10, none⟩ = some x10 ∧ w.cell? ⟨b, 11, none⟩ = some x11 :=
  ⟨blk_cell h 0, blk_cell h 1, blk_cell h 2, blk_cell h 3, blk_cell h 4, blk_cell h 5, blk_cell h 6, blk_cell h 7, blk_cell h 8, blk_cell h 9, blk_cell h 10, blk_cell h 11⟩
structure Trc where
  code : Int
  steps : List Step
  pkt : Pkt
  deriving DecidableEq
def Trc.size (x : Trc) : Nat := x.steps.length + x.pkt.size
def Trc.rep : Rep Trc where
  cells := 12
  rd w cs x := ∃ v0 v1 v2, cs = [.int .i64 x.code, v0, .int .i64 x.pkt.kind, .int .i64 x.pkt.src, .int .i64 x.pkt.dst, v1, .int .i64 x.pkt.pi, .int .i64 x.pkt.hi, .int .i64 x.pkt.beta, .int .i64 x.pkt.rid, .int .i64 x.pkt.seq, v2] ∧ RdS Step.rep w v0 x.steps ∧ RdS Part.rep w v1 x.pkt.path.parts ∧ RdS Rep.byte w v2 x.pkt.pay
  len := by rintro w cs a ⟨v0, v1, v2, rfl, _⟩; rfl
  ext := by rintro w w' cs a e ⟨v0, v1, v2, rfl, h0, h1, h2⟩; exact ⟨v0, v1, v2, rfl, h0.ext e, h1.ext e, h2.ext e⟩
def Trc.ok (x : Trc) : Prop := I64 x.code ∧ (∀ y ∈ x.steps, Step.ok y) ∧ x.pkt.ok
set_option maxHeartbeats 1000000 in
theorem Trc.opens : Opens Try.prog 82 Trc.rep Trc.ok := by
  intro H enc w base spare held fuel cs x h
  obtain ⟨xs, n, _, _, hcl, hxl, hf⟩ := DataW.trod_struct Try.underlying82 h
  have hC : Try.prog.cellsOf 82 = 12 := by kernel_rfl
  have hi1 : Try.prog.cellsOf 3 = 1 := by kernel_rfl
  have hi2 : Try.prog.cellsOf 77 = 1 := by kernel_rfl
  have hi3 : Try.prog.cellsOf 80 = 10 := by kernel_rfl
  obtain ⟨c0, c1, cs, rfl⟩ : ∃ c0 c1 cs', cs = c0 :: c1 :: cs' := by
    rcases cs with _ | ⟨c0, _ | ⟨c1, cs'⟩⟩
    · simp [hC] at hcl
    · simp [hC] at hcl
    · exact ⟨_, _, _, rfl⟩
  have hcl2 : cs.length = 10 := by have := hcl.trans hC; simpa using this
  obtain ⟨y0, y1, y2, rfl⟩ := len3 hxl
  have h0 := hf 0 _ rfl
  simp [hi1] at h0
  obtain ⟨n0, r0, k0⟩ := opens_int Try.underlying3 h0
  cases r0
  have h1 := hf 1 _ rfl
  simp [hi2] at h1
  obtain ⟨l1, ⟨v1, e1, r1⟩, k1⟩ := Step.opensS h1
  cases e1
  have h2 := hf 2 _ rfl
  simp [hi3] at h2
  rw [List.take_of_length_le (by omega)] at h2
  obtain ⟨l2, ⟨v2, v3, e2, r2, r3⟩, k2⟩ := Pkt.opens h2
  subst e2
  exact ⟨⟨n0, l1, l2⟩, ⟨_, _, _, rfl, r1, r2, r3⟩, k0, k1, k2⟩
def stepOwn : Own Step := Own.flat Step.f 3 Step.flen 132
/-- What a trace's handles own: sets that share no block. -/
def Trc.own (S : Nat → Prop) (w : World) (h0 h1 h2 : Value) (x : Trc) : Prop :=
  ∃ S0 S1 : Nat → Prop, stepOwn.own S0 w h0 x.steps ∧ Pkt.own S1 w h1 h2 x.pkt ∧ (∀ b, S0 b → S b) ∧ (∀ b, S1 b → S b) ∧ ∀ b, S0 b → ¬ S1 b
theorem Trc.own_kept {S T : Nat → Prop} {w w' : World} {h0 h1 h2 : Value} {x : Trc} (h : Trc.own S w h0 h1 h2 x) (c : Chg T w w') (hs : ∀ b, S b → ¬ T b) : Trc.own S w' h0 h1 h2 x := by
  obtain ⟨S0, S1, a, b, c0, c1, d⟩ := h
  exact ⟨S0, S1, stepOwn.kept a c (fun k hk => hs k (c0 k hk)), Pkt.own_kept b c (fun k hk => hs k (c1 k hk)), c0, c1, d⟩
theorem Trc.own_ext {S : Nat → Prop} {w w' : World} {h0 h1 h2 : Value} {x : Trc} (h : Trc.own S w h0 h1 h2 x) (e : Ext w w') : Trc.own S w' h0 h1 h2 x :=
  Trc.own_kept h (Chg.ofExt (S := noB) e) (fun _ _ h => h)
theorem Trc.own_mono {S T : Nat → Prop} {w : World} {h0 h1 h2 : Value} {x : Trc} (h : Trc.own S w h0 h1 h2 x) (hs : ∀ b, S b → T b) : Trc.own T w h0 h1 h2 x := by
  obtain ⟨S0, S1, a, b, c0, c1, d⟩ := h
  exact ⟨S0, S1, a, b, fun k hk => hs k (c0 k hk), fun k hk => hs k (c1 k hk), d⟩
theorem Trc.own_rd0 {S : Nat → Prop} {w : World} {h0 h1 h2 : Value} {x : Trc} (h : Trc.own S w h0 h1 h2 x) : RdS Step.rep w h0 x.steps := by
  obtain ⟨S0, S1, a, _⟩ := h; exact stepOwn.rd a
theorem Trc.own_rd1 {S : Nat → Prop} {w : World} {h0 h1 h2 : Value} {x : Trc} (h : Trc.own S w h0 h1 h2 x) : RdS Part.rep w h1 x.pkt.path.parts := by
  obtain ⟨S0, S1, _, b, _⟩ := h; exact Pkt.own_rd0 b
theorem Trc.own_rd2 {S : Nat → Prop} {w : World} {h0 h1 h2 : Value} {x : Trc} (h : Trc.own S w h0 h1 h2 x) : RdS Rep.byte w h2 x.pkt.pay := by
  obtain ⟨S0, S1, _, b, _⟩ := h; exact Pkt.own_rd1 b
theorem Trc.own_inb {S : Nat → Prop} {w : World} {h0 h1 h2 : Value} {x : Trc} (h : Trc.own S w h0 h1 h2 x) : Trc.own (fun b => S b ∧ b < w.heap.size) w h0 h1 h2 x := by
  obtain ⟨S0, S1, a, b, c0, c1, d⟩ := h
  exact ⟨_, _, stepOwn.inb a, Pkt.own_inb b, fun k hk => ⟨c0 k hk.1, hk.2⟩, fun k hk => ⟨c1 k hk.1, hk.2⟩, fun k hk h2 => d k hk.1 h2.1⟩
set_option maxHeartbeats 1000000 in
theorem l_szTrace (x : Trc) (v0 v1 v2 : Value) (left : Int) (w : World) (r0 : RdS Step.rep w v0 x.steps) (r1 : RdS Part.rep w v1 x.pkt.path.parts) (r2 : RdS Rep.byte w v2 x.pkt.pay) (h0 : 0 ≤ left) (h1 : left ≤ 1048576) :
    Calls Try.prog 51 #[.agg #[.int .i64 x.code, v0, .int .i64 x.pkt.kind, .int .i64 x.pkt.src, .int .i64 x.pkt.dst, v1, .int .i64 x.pkt.pi, .int .i64 x.pkt.hi, .int .i64 x.pkt.beta, .int .i64 x.pkt.rid, .int .i64 x.pkt.seq, v2], .int .i64 left] w fun e w' => e = .returned (.int .i64 (szL left x.size)) ∧ Ext w w' := by
  go_enter Try.func51, Try.ntmps51
  have hx0 : Ext w (w.alloc (.cells #[.int .i64 x.code, v0, .int .i64 x.pkt.kind, .int .i64 x.pkt.src, .int .i64 x.pkt.dst, v1, .int .i64 x.pkt.pi, .int .i64 x.pkt.hi, .int .i64 x.pkt.beta, .int .i64 x.pkt.rid, .int .i64 x.pkt.seq, v2] 82)) := (Ext.refl _).alloc _
  have hB := blk_new w (.cells #[.int .i64 x.code, v0, .int .i64 x.pkt.kind, .int .i64 x.pkt.src, .int .i64 x.pkt.dst, v1, .int .i64 x.pkt.pi, .int .i64 x.pkt.hi, .int .i64 x.pkt.beta, .int .i64 x.pkt.rid, .int .i64 x.pkt.seq, v2] 82)
  have HB := Lib.hid hB; clear hB
  go_wp2_with fail
  refine (l_szStepS x.steps _ _ _ (r0.ext hx0) h0 h1).mono ?_
  rintro e w1 ⟨rfl, k1⟩
  have hx1 := hx0.trans k1
  by_cases hlt : left - x.steps.length < 0
  · have hz : szL left x.size = -1 := by unfold szL Trc.size; rw [if_pos (by omega)]
    have hz1 : szL left x.steps.length = -1 := by unfold szL; rw [if_pos hlt]
    rw [hz1]
    have HZ := Lib.hid hz; clear hz hz1
    go_wp2_with fail
    go_ret
    exact ⟨ret_int HZ.out.symm, hx1⟩
  · have hz : szL (left - x.steps.length) x.pkt.size = szL left x.size := szL_add' hlt
    have hz1 : szL left x.steps.length = left - x.steps.length := by unfold szL; rw [if_neg hlt]
    rw [hz1]
    have HZ := Lib.hid hz; clear hz hz1
    have hc1 := blk12 (k1.block HB.out)
    have hl0 : 0 ≤ left - x.steps.length := by omega
    have hl1 : left - x.steps.length ≤ 1048576 := by omega
    go_wp2_with fail
    refine (l_szPacket x.pkt _ _ _ _ (r1.ext hx1) (r2.ext hx1) hl0 hl1).mono ?_
    rintro e w2 ⟨rfl, k2⟩
    by_cases hlt2 : left - x.steps.length - x.pkt.size < 0
    · have hz1 : szL (left - x.steps.length) x.pkt.size = -1 := by unfold szL; rw [if_pos hlt2]
      have HZ2 := Lib.hid (hz1.symm.trans HZ.out)
      rw [hz1]
      clear hz1
      go_wp2_with fail
      go_ret
      exact ⟨ret_int HZ2.out, hx1.trans k2⟩
    · have hz1 : szL (left - x.steps.length) x.pkt.size = left - x.steps.length - x.pkt.size := by unfold szL; rw [if_neg hlt2]
      have HZ2 := Lib.hid (hz1.symm.trans HZ.out)
      rw [hz1]
      clear hz1
      go_wp2_with fail
      go_ret
      exact ⟨ret_int HZ2.out, hx1.trans k2⟩
set_option maxRecDepth 100000 in
set_option maxHeartbeats 8000000 in
theorem l_toTrace (x : Trc) (v0 v1 v2 : Value) (w : World) (r0 : RdS Step.rep w v0 x.steps) (r1 : RdS Part.rep w v1 x.pkt.path.parts) (r2 : RdS Rep.byte w v2 x.pkt.pay) (hl : x.size ≤ 1048576) :
    Calls Try.prog 53 #[.agg #[.int .i64 x.code, v0, .int .i64 x.pkt.kind, .int .i64 x.pkt.src, .int .i64 x.pkt.dst, v1, .int .i64 x.pkt.pi, .int .i64 x.pkt.hi, .int .i64 x.pkt.beta, .int .i64 x.pkt.rid, .int .i64 x.pkt.seq, v2]] w fun e w' => ∃ u0 u1 u2, e = .returned (.agg #[.int .i64 x.code, u0, .int .i64 x.pkt.kind, .int .i64 x.pkt.src, .int .i64 x.pkt.dst, u1, .int .i64 x.pkt.pi, .int .i64 x.pkt.hi, .int .i64 x.pkt.beta, .int .i64 x.pkt.rid, .int .i64 x.pkt.seq, u2]) ∧ Trc.own (rng w.heap.size w'.heap.size) w' u0 u1 u2 x ∧ Ext w w' := by
  unfold Trc.size at hl
  go_enter Try.func53, Try.ntmps53
  go_wp2_with fail
  refine (l_toStepS x.steps _ _ (r0.ext (by repeat (first | exact Ext.refl _ | apply Ext.alloc | (refine Ext.setCell ?_ (by simp) _)))) (by omega)).mono ?_
  rintro e w1 ⟨u0, rfl, o1, k1⟩
  obtain ⟨oo0, cc0, rfl, _⟩ := (OwnF.rd (hf := Step.flen) o1).shape
  have hb0 := k1.block (al3 w _ _ _).1
  have hb1 := k1.block (al3 w _ _ _).2.1
  have hb2 := k1.block (al3 w _ _ _).2.2
  have hx1 := (ext3 w _ _ _).trans k1
  have hs1 := k1.size
  simp only [nblk_alloc] at hs1 o1
  have key : ∃ w2, w2 = w1.setCell ⟨w.heap.size + 1 + 1, 1, none⟩ (.slice oo0 x.steps.length cc0) ∧ w2.heap[w.heap.size + 1]? = some (.cells #[.int .i64 0, .slice none 0 0, .int .i64 0, .int .i64 0, .int .i64 0, .slice none 0 0, .int .i64 0, .int .i64 0, .int .i64 0, .int .i64 0, .int .i64 0, .slice none 0 0] 88) ∧ w2.heap[w.heap.size + 1 + 1]? = some (.cells #[.int .i64 x.code, .slice oo0 x.steps.length cc0, .int .i64 0, .int .i64 0, .int .i64 0, .slice none 0 0, .int .i64 0, .int .i64 0, .int .i64 0, .int .i64 0, .int .i64 0, .slice none 0 0] 88) ∧ stepOwn.own (rng (w.heap.size + 1 + 1 + 1) w1.heap.size) w2 (.slice oo0 x.steps.length cc0) x.steps ∧ Ext w w2 ∧ w2.heap.size = w1.heap.size := by
    refine ⟨_, rfl, blk_set_ne hb1 (show w.heap.size + 1 + 1 ≠ w.heap.size + 1 by omega) _ _, ?_, ?_, Ext.setCell (p := ⟨w.heap.size + 1 + 1, 1, none⟩) hx1 (show w.heap.size ≤ w.heap.size + 1 + 1 by omega) _, by simp⟩
    · have := blk_set hb2 1 (.slice oo0 x.steps.length cc0)
      simpa using this
    · exact stepOwn.kept (Own.ofF (hf := Step.flen) o1) (Chg.setCell (S := fun b => b = w.heap.size + 1 + 1) (Chg.refl _ w1) rfl _) (fun b hb e => by have := hb.1; omega)
  obtain ⟨w2, hw2, B1, B2, o1', hx2, hsz⟩ := key
  have HW := Lib.hid hw2; have HB1 := Lib.hid B1; have HB2 := Lib.hid B2
  clear hw2 B1 B2 o1
  have hc0 := blk12 hb0
  have hc2 := blk12 hb2
  have f1 := fr_of hb2 1
  clear hb0 hb1 hb2 hx1
  go_wp2_with fail
  rw [← HW.out]
  refine (l_toPacket x.pkt _ _ _ (r1.ext hx2) (r2.ext hx2) (by omega)).mono ?_
  rintro e w3 ⟨u1, u2, rfl, o2, k2⟩
  clear hc0 hc2 f1
  obtain ⟨oo1, cc1, rfl, _⟩ := (Pkt.own_rd0 o2).shape
  obtain ⟨oo2, cc2, rfl, _⟩ := (Pkt.own_rd1 o2).shape
  have b1 := k2.block HB1.out
  have b2 := k2.block HB2.out
  have hs3 : w.heap.size + 1 + 1 < w2.heap.size := blk_lt HB2.out
  have hs4 := k2.size
  have c1 := blk12 b1
  have c2 := blk12 b2
  have g0 := fr_of b1 0
  have g1 := fr_of b1 1
  have g2 := fr_of b1 2
  have g3 := fr_of b1 3
  have g4 := fr_of b1 4
  have g5 := fr_of b1 5
  have g6 := fr_of b1 6
  have g7 := fr_of b1 7
  have g8 := fr_of b1 8
  have g9 := fr_of b1 9
  have g10 := fr_of b1 10
  have g11 := fr_of b1 11
  have p2 := fr_of b2 2
  have p3 := fr_of b2 3
  have p4 := fr_of b2 4
  have p5 := fr_of b2 5
  have p6 := fr_of b2 6
  have p7 := fr_of b2 7
  have p8 := fr_of b2 8
  have p9 := fr_of b2 9
  have p10 := fr_of b2 10
  have p11 := fr_of b2 11
  have o1q := Own.ext o1' k2
  clear b1 b2 o1'
  go_wp2_with fail
  refine bodyPost_ret (v := .agg #[.int .i64 x.code, .slice oo0 x.steps.length cc0, .int .i64 x.pkt.kind, .int .i64 x.pkt.src, .int .i64 x.pkt.dst, .slice oo1 x.pkt.path.parts.length cc1, .int .i64 x.pkt.pi, .int .i64 x.pkt.hi, .int .i64 x.pkt.beta, .int .i64 x.pkt.rid, .int .i64 x.pkt.seq, .slice oo2 x.pkt.pay.length cc2]) (by simp [results, Try.results53, go_sem, c1]) rfl ⟨_, _, _, rfl, ⟨_, _, stepOwn.kept (T := fun b => b < w.heap.size + 1 + 1 + 1) o1q ?_ (fun b hb e => by have := hb.1; omega), Pkt.own_kept (T := fun b => b < w.heap.size + 1 + 1 + 1) o2 ?_ (fun b hb e => by have := hb.1; omega), ?_, ?_, ?_⟩, ?_⟩
  · have q (b : Nat) (hb : b < w.heap.size + 1 + 1 + 1) (o : Nat) (u : Value) {wq : World} (h : Chg (fun b => b < w.heap.size + 1 + 1 + 1) w3 wq) := Chg.setCell (p := ⟨b, o, none⟩) h hb u
    exact q _ (by omega) _ _ (q _ (by omega) _ _ (q _ (by omega) _ _ (q _ (by omega) _ _ (q _ (by omega) _ _ (q _ (by omega) _ _ (q _ (by omega) _ _ (q _ (by omega) _ _ (q _ (by omega) _ _ (q _ (by omega) _ _ (q _ (by omega) _ _ (q _ (by omega) _ _ (q _ (by omega) _ _ (q _ (by omega) _ _ (q _ (by omega) _ _ (q _ (by omega) _ _ (q _ (by omega) _ _ (q _ (by omega) _ _ (q _ (by omega) _ _ (q _ (by omega) _ _ (q _ (by omega) _ _ (q _ (by omega) _ _ (Chg.refl _ w3))))))))))))))))))))))
  · have q (b : Nat) (hb : b < w.heap.size + 1 + 1 + 1) (o : Nat) (u : Value) {wq : World} (h : Chg (fun b => b < w.heap.size + 1 + 1 + 1) w3 wq) := Chg.setCell (p := ⟨b, o, none⟩) h hb u
    exact q _ (by omega) _ _ (q _ (by omega) _ _ (q _ (by omega) _ _ (q _ (by omega) _ _ (q _ (by omega) _ _ (q _ (by omega) _ _ (q _ (by omega) _ _ (q _ (by omega) _ _ (q _ (by omega) _ _ (q _ (by omega) _ _ (q _ (by omega) _ _ (q _ (by omega) _ _ (q _ (by omega) _ _ (q _ (by omega) _ _ (q _ (by omega) _ _ (q _ (by omega) _ _ (q _ (by omega) _ _ (q _ (by omega) _ _ (q _ (by omega) _ _ (q _ (by omega) _ _ (q _ (by omega) _ _ (q _ (by omega) _ _ (Chg.refl _ w3))))))))))))))))))))))
  · intro b hb
    have h1 := hb.1; have h2 := hb.2
    refine ⟨by omega, ?_⟩
    simp
    omega
  · intro b hb
    have h1 := hb.1; have h2 := hb.2
    refine ⟨by omega, ?_⟩
    simp
    omega
  · intro b hb h2
    have h3 := hb.2; have h4 := h2.1
    omega
  · have hx3 := hx2.trans k2
    have q (b : Nat) (hb : w.heap.size ≤ b) (o : Nat) (u : Value) {wq : World} (h : Ext w wq) := Ext.setCell (p := ⟨b, o, none⟩) h hb u
    exact q _ (by omega) _ _ (q _ (by omega) _ _ (q _ (by omega) _ _ (q _ (by omega) _ _ (q _ (by omega) _ _ (q _ (by omega) _ _ (q _ (by omega) _ _ (q _ (by omega) _ _ (q _ (by omega) _ _ (q _ (by omega) _ _ (q _ (by omega) _ _ (q _ (by omega) _ _ (q _ (by omega) _ _ (q _ (by omega) _ _ (q _ (by omega) _ _ (q _ (by omega) _ _ (q _ (by omega) _ _ (q _ (by omega) _ _ (q _ (by omega) _ _ (q _ (by omega) _ _ (q _ (by omega) _ _ (q _ (by omega) _ _ hx3)))))))))))))))))))))
set_option maxHeartbeats 2000000 in
theorem l_eqTrace (x y : Trc) (v0 v1 v2 u0 u1 u2 : Value) (w : World) (r0 : RdS Step.rep w v0 x.steps) (r1 : RdS Part.rep w v1 x.pkt.path.parts) (r2 : RdS Rep.byte w v2 x.pkt.pay) (s0 : RdS Step.rep w u0 y.steps) (s1 : RdS Part.rep w u1 y.pkt.path.parts) (s2 : RdS Rep.byte w u2 y.pkt.pay) :
    Calls Try.prog 55 #[.agg #[.int .i64 x.code, v0, .int .i64 x.pkt.kind, .int .i64 x.pkt.src, .int .i64 x.pkt.dst, v1, .int .i64 x.pkt.pi, .int .i64 x.pkt.hi, .int .i64 x.pkt.beta, .int .i64 x.pkt.rid, .int .i64 x.pkt.seq, v2], .agg #[.int .i64 y.code, u0, .int .i64 y.pkt.kind, .int .i64 y.pkt.src, .int .i64 y.pkt.dst, u1, .int .i64 y.pkt.pi, .int .i64 y.pkt.hi, .int .i64 y.pkt.beta, .int .i64 y.pkt.rid, .int .i64 y.pkt.seq, u2]] w fun e w' => e = .returned (.bool (decide (x = y))) ∧ Ext w w' := by
  have heq : decide (x = y) = (!(x.code != y.code) && (decide (x.steps = y.steps) && decide (x.pkt = y.pkt))) := by
    cases x; cases y; simp only [nbne, Trc.mk.injEq, Bool.decide_and]
  have HEQ := Lib.hid heq; clear heq
  go_enter Try.func55, Try.ntmps55
  have hx0 := ext2 w (.cells #[.int .i64 x.code, v0, .int .i64 x.pkt.kind, .int .i64 x.pkt.src, .int .i64 x.pkt.dst, v1, .int .i64 x.pkt.pi, .int .i64 x.pkt.hi, .int .i64 x.pkt.beta, .int .i64 x.pkt.rid, .int .i64 x.pkt.seq, v2] 88) (.cells #[.int .i64 y.code, u0, .int .i64 y.pkt.kind, .int .i64 y.pkt.src, .int .i64 y.pkt.dst, u1, .int .i64 y.pkt.pi, .int .i64 y.pkt.hi, .int .i64 y.pkt.beta, .int .i64 y.pkt.rid, .int .i64 y.pkt.seq, u2] 88)
  have hB := al2 w (.cells #[.int .i64 x.code, v0, .int .i64 x.pkt.kind, .int .i64 x.pkt.src, .int .i64 x.pkt.dst, v1, .int .i64 x.pkt.pi, .int .i64 x.pkt.hi, .int .i64 x.pkt.beta, .int .i64 x.pkt.rid, .int .i64 x.pkt.seq, v2] 88) (.cells #[.int .i64 y.code, u0, .int .i64 y.pkt.kind, .int .i64 y.pkt.src, .int .i64 y.pkt.dst, u1, .int .i64 y.pkt.pi, .int .i64 y.pkt.hi, .int .i64 y.pkt.beta, .int .i64 y.pkt.rid, .int .i64 y.pkt.seq, u2] 88)
  have HB := Lib.hid hB; clear hB
  cases hc : (x.code != y.code)
  · rw [hc] at HEQ
    go_wp2_with fail
    refine (l_eqStepS x.steps y.steps _ _ _ (r0.ext hx0) (s0.ext hx0)).mono ?_
    rintro e w1 ⟨rfl, k1⟩
    have hx1 := hx0.trans k1
    have c0 := blk12 (k1.block HB.out.1)
    have c1 := blk12 (k1.block HB.out.2)
    cases hr : decide (x.steps = y.steps)
    · rw [hr] at HEQ
      go_wp2_with fail
      go_ret
      exact ⟨ret_bool HEQ.out.symm, hx1⟩
    · rw [hr] at HEQ
      go_wp2_with fail
      refine (l_eqPacket x.pkt y.pkt _ _ _ _ _ (r1.ext hx1) (r2.ext hx1) (s1.ext hx1) (s2.ext hx1)).mono ?_
      rintro e w2 ⟨rfl, k2⟩
      cases hu : decide (x.pkt = y.pkt)
      · rw [hu] at HEQ
        go_wp2_with fail
        go_ret
        exact ⟨ret_bool HEQ.out.symm, hx1.trans k2⟩
      · rw [hu] at HEQ
        go_wp2_with fail
        go_ret
        exact ⟨ret_bool HEQ.out.symm, hx1.trans k2⟩
  · rw [hc] at HEQ
    go_wp2_with fail
    go_ret
    exact ⟨ret_bool HEQ.out.symm, hx0⟩
def Trc.cnt (x : Trc) : Int := 3 * x.steps.length + x.pkt.cnt
def Trc.marked (k : Int) (x : Trc) : Trc := { x with steps := markL Step.mk' 3 k x.steps.length, pkt := Pkt.marked (k + 3 * x.steps.length) x.pkt }
theorem Trc.cnt_le {x : Trc} (h : x.size ≤ 1048576) : 0 ≤ x.cnt ∧ x.cnt ≤ 5242880 * 2 := by
  have h1 : x.pkt.size ≤ 1048576 := by unfold Trc.size at h; omega
  have h2 : x.steps.length ≤ 1048576 := by unfold Trc.size at h; omega
  have := Pkt.cnt_le h1
  unfold Trc.cnt; omega
theorem Pkt.cnt_nn (x : Pkt) : 0 ≤ x.cnt := by unfold Pkt.cnt markN; omega
theorem lm_StepS (l : List Step) (v : Value) (k : Int) (S : Nat → Prop) (w : World) (o : stepOwn.own S w v l) (h0 : 0 ≤ k) (h1 : k + 3 * l.length ≤ 4611686018427387904) :
    Calls Try.prog 32 #[v, .int .i64 k] w fun e w' => e = .returned (.int .i64 (k + 3 * l.length)) ∧ stepOwn.own S w' v (markL Step.mk' 3 k l.length) ∧ Chg S w w' :=
  (l_markStepS l v k 0 w o.1 h0 h1).mono fun _ _ ⟨he, ho, hg⟩ => ⟨he, ⟨ho, o.2⟩, Chg.ofGrown hg o.2⟩
set_option maxHeartbeats 1000000 in
theorem l_markTrace (x : Trc) (h0 h1 h2 : Value) (k : Int) (S : Nat → Prop) (w : World) (o : Trc.own S w h0 h1 h2 x) (hk : 0 ≤ k) (hm : k + x.cnt ≤ 4611686018427387904) :
    Calls Try.prog 56 #[.agg #[.int .i64 x.code, h0, .int .i64 x.pkt.kind, .int .i64 x.pkt.src, .int .i64 x.pkt.dst, h1, .int .i64 x.pkt.pi, .int .i64 x.pkt.hi, .int .i64 x.pkt.beta, .int .i64 x.pkt.rid, .int .i64 x.pkt.seq, h2], .int .i64 k] w fun e w' => e = .returned (.int .i64 (k + x.cnt)) ∧ Trc.own S w' h0 h1 h2 (Trc.marked k x) ∧ Chg S w w' := by
  have hce : k + x.cnt = k + 3 * x.steps.length + x.pkt.cnt := by unfold Trc.cnt; omega
  have hcn := Pkt.cnt_nn x.pkt
  rw [hce] at hm ⊢
  obtain ⟨S0, S1, o0, o1, c0, c1, hd⟩ := Trc.own_inb o
  have hx0 : Ext w (w.alloc (.cells #[.int .i64 x.code, h0, .int .i64 x.pkt.kind, .int .i64 x.pkt.src, .int .i64 x.pkt.dst, h1, .int .i64 x.pkt.pi, .int .i64 x.pkt.hi, .int .i64 x.pkt.beta, .int .i64 x.pkt.rid, .int .i64 x.pkt.seq, h2] 88)) := (Ext.refl _).alloc _
  have hB := blk_new w (.cells #[.int .i64 x.code, h0, .int .i64 x.pkt.kind, .int .i64 x.pkt.src, .int .i64 x.pkt.dst, h1, .int .i64 x.pkt.pi, .int .i64 x.pkt.hi, .int .i64 x.pkt.beta, .int .i64 x.pkt.rid, .int .i64 x.pkt.seq, h2] 88)
  have HB := Lib.hid hB; clear hB
  go_enter Try.func56, Try.ntmps56
  go_wp2_with fail
  refine (lm_StepS x.steps _ k S0 _ (Own.ext o0 hx0) hk (by omega)).mono ?_
  rintro e w1 ⟨rfl, o0', d1⟩
  have o1' := Pkt.own_kept (Pkt.own_ext o1 hx0) d1 (fun b hb h2 => hd b h2 hb)
  have hb1 := (d1.block _ (blk_lt HB.out) (fun h => by have := (c0 _ h).2; omega)).trans HB.out
  have hc := blk12 hb1
  clear hb1
  have hp : 0 ≤ k + 3 * (x.steps.length : Int) := by omega
  go_wp2_with fail
  refine (l_markPacket x.pkt _ _ (k + 3 * x.steps.length) S1 _ o1' hp hm).mono ?_
  rintro e w2 ⟨rfl, o1'', d2⟩
  have o0'' := stepOwn.kept o0' d2 (fun b hb h2 => hd b hb h2)
  go_wp2_with fail
  go_ret
  refine ⟨ret_int (by omega), ⟨S0, S1, o0'', o1'', fun b hb => (c0 b hb).1, fun b hb => (c1 b hb).1, hd⟩, ?_⟩
  exact ((Chg.ofExt hx0).trans (d1.mono (fun b hb => (c0 b hb).1))).trans (d2.mono (fun b hb => (c1 b hb).1))
end Go.Proofs.Ytpeipodehflmaaa
