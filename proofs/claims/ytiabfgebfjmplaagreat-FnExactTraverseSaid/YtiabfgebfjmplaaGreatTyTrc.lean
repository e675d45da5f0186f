/- The data of traces, how they read, what they own, and the contracts of the laws' helper functions over them. No condition but the bounds that each theorem names. -/
import Derived.Test.YtiabfgebfjmplaaGreatTyPkt
import Derived.Test.YtiabfgebfjmplaaGreatTyStep
namespace Go.Proofs.YtiabfgebfjmplaaGreat
open Go.ChangeShapes Go.WideShapes Go.ChangeAt Go.RowKit Go.Deep

theorem blk12 {w : World} {b : Nat} {x0 x1 x2 x3 x4 x5 x6 x7 x8 x9 x10 x11 : Value} {t : TypeId} {f : Nat × Nat} (h : w.heap[b]? = some (.cells #[x0, x1, x2, x3, x4, x5, x6, x7, x8, x9, x10, x11] t f)) :
    w.cell? ⟨b, 0, none⟩ = some x0 ∧ w.cell? ⟨b, 1, none⟩ = some x1 ∧ w.cell? ⟨b, 2, none⟩ = some x2 ∧ w.cell? ⟨b, 3, none⟩ = some x3 ∧ w.cell? ⟨b, 4, none⟩ = some x4 ∧ w.cell? ⟨b, 5, none⟩ = some x5 ∧ w.cell? ⟨b, 6, none⟩ = some x6 ∧ w.cell? ⟨b, 7, none⟩ = some x7 ∧ w.cell? ⟨b, 8, none⟩ = some x8 ∧ w.cell? ⟨b, 9, none⟩ = some x9 ∧ w.cell? ⟨b, 10, none⟩ = some x10 ∧ w.cell? ⟨b, 11, none⟩ = some x11 :=
  ⟨blk_cell h 0, blk_cell h 1, blk_cell h 2, blk_cell h 3, blk_cell h 4, blk_cell h 5, blk_cell h 6, blk_cell h 7, blk_cell h 8, blk_cell h 9, blk_cell h 10, blk_cell h 11⟩
structure Trc where
  code : Int
  steps : List Step
  pkt : Pkt
  deriving DecidableEq
def Trc.size (x : Trc) : Nat := x.steps.length + x.pkt.size
def Trc.rep : Rep Trc where
  cells := 12
  rd w cs x := ∃ v0 v1 v2, cs = [.int .i64 x.code, v0, .int .i64 x.pkt.kind, .int .i64 x.pkt.src, .int .i64 x.pkt.dst, v1, .int .i64 x.pkt.pi, .int .i64 x.pkt.hi, .int .i64 x.pkt.beta, .int .i64 x.pkt.rid, .int .i64 x.pkt.seq, v2] ∧ RdS Step.rep w v0 x.steps ∧ RdS Part.rep w v1 x.pkt.path.parts ∧ RdS Rep.byte w v2 x.pkt.pay
  len := by rintro w cs a ⟨v0, v1, v2, rfl, _⟩; rfl
  ext := by rintro w w' cs a e ⟨v0, v1, v2, rfl, h0, h1, h2⟩; exact ⟨v0, v1, v2, rfl, h0.ext e, h1.ext e, h2.ext e⟩
def Trc.ok (x : Trc) : Prop := I64 x.code ∧ (∀ y ∈ x.steps, Step.ok y) ∧ x.pkt.ok
def stepOwn : Own Step := Own.flat Step.f 3 Step.flen 85
/-- What a trace's handles own: sets that share no block. -/
def Trc.own (S : Nat → Prop) (w : World) (h0 h1 h2 : Value) (x : Trc) : Prop :=
  ∃ S0 S1 : Nat → Prop, stepOwn.own S0 w h0 x.steps ∧ Pkt.own S1 w h1 h2 x.pkt ∧ (∀ b, S0 b → S b) ∧ (∀ b, S1 b → S b) ∧ ∀ b, S0 b → ¬ S1 b
theorem Trc.own_kept {S T : Nat → Prop} {w w' : World} {h0 h1 h2 : Value} {x : Trc} (h : Trc.own S w h0 h1 h2 x) (c : Chg T w w') (hs : ∀ b, S b → ¬ T b) : Trc.own S w' h0 h1 h2 x := by
  obtain ⟨S0, S1, a, b, c0, c1, d⟩ := h
  exact ⟨S0, S1, stepOwn.kept a c (fun k hk => hs k (c0 k hk)), Pkt.own_kept b c (fun k hk => hs k (c1 k hk)), c0, c1, d⟩
theorem Trc.own_ext {S : Nat → Prop} {w w' : World} {h0 h1 h2 : Value} {x : Trc} (h : Trc.own S w h0 h1 h2 x) (e : Ext w w') : Trc.own S w' h0 h1 h2 x :=
  Trc.own_kept h (Chg.ofExt (S := noB) e) (fun _ _ h => h)
theorem Trc.own_mono {S T : Nat → Prop} {w : World} {h0 h1 h2 : Value} {x : Trc} (h : Trc.own S w h0 h1 h2 x) (hs : ∀ b, S b → T b) : Trc.own T w h0 h1 h2 x := by
  obtain ⟨S0, S1, a, b, c0, c1, d⟩ := h
  exact ⟨S0, S1, a, b, fun k hk => hs k (c0 k hk), fun k hk => hs k (c1 k hk), d⟩
theorem Trc.own_rd0 {S : Nat → Prop} {w : World} {h0 h1 h2 : Value} {x : Trc} (h : Trc.own S w h0 h1 h2 x) : RdS Step.rep w h0 x.steps := by
  obtain ⟨S0, S1, a, _⟩ := h; exact stepOwn.rd a
theorem Trc.own_rd1 {S : Nat → Prop} {w : World} {h0 h1 h2 : Value} {x : Trc} (h : Trc.own S w h0 h1 h2 x) : RdS Part.rep w h1 x.pkt.path.parts := by
  obtain ⟨S0, S1, _, b, _⟩ := h; exact Pkt.own_rd0 b
theorem Trc.own_rd2 {S : Nat → Prop} {w : World} {h0 h1 h2 : Value} {x : Trc} (h : Trc.own S w h0 h1 h2 x) : RdS Rep.byte w h2 x.pkt.pay := by
  obtain ⟨S0, S1, _, b, _⟩ := h; exact Pkt.own_rd1 b
theorem Trc.own_inb {S : Nat → Prop} {w : World} {h0 h1 h2 : Value} {x : Trc} (h : Trc.own S w h0 h1 h2 x) : Trc.own (fun b => S b ∧ b < w.heap.size) w h0 h1 h2 x := by
  obtain ⟨S0, S1, a, b, c0, c1, d⟩ := h
  exact ⟨_, _, stepOwn.inb a, Pkt.own_inb b, fun k hk => ⟨c0 k hk.1, hk.2⟩, fun k hk => ⟨c1 k hk.1, hk.2⟩, fun k hk h2 => d k hk.1 h2.1⟩
set_option maxHeartbeats 2000000 in
theorem l_eqTrace (x y : Trc) (v0 v1 v2 u0 u1 u2 : Value) (w : World) (r0 : RdS Step.rep w v0 x.steps) (r1 : RdS Part.rep w v1 x.pkt.path.parts) (r2 : RdS Rep.byte w v2 x.pkt.pay) (s0 : RdS Step.rep w u0 y.steps) (s1 : RdS Part.rep w u1 y.pkt.path.parts) (s2 : RdS Rep.byte w u2 y.pkt.pay) :
    Calls Tryz.prog 14 #[.agg #[.int .i64 x.code, v0, .int .i64 x.pkt.kind, .int .i64 x.pkt.src, .int .i64 x.pkt.dst, v1, .int .i64 x.pkt.pi, .int .i64 x.pkt.hi, .int .i64 x.pkt.beta, .int .i64 x.pkt.rid, .int .i64 x.pkt.seq, v2], .agg #[.int .i64 y.code, u0, .int .i64 y.pkt.kind, .int .i64 y.pkt.src, .int .i64 y.pkt.dst, u1, .int .i64 y.pkt.pi, .int .i64 y.pkt.hi, .int .i64 y.pkt.beta, .int .i64 y.pkt.rid, .int .i64 y.pkt.seq, u2]] w fun e w' => e = .returned (.bool (decide (x = y))) ∧ Ext w w' := by
  have heq : decide (x = y) = (!(x.code != y.code) && (decide (x.steps = y.steps) && decide (x.pkt = y.pkt))) := by
    cases x; cases y; simp only [nbne, Trc.mk.injEq, Bool.decide_and]
  have HEQ := Lib.hid heq; clear heq
  go_enter Tryz.func14, Tryz.ntmps14
  have hx0 := ext2 w (.cells #[.int .i64 x.code, v0, .int .i64 x.pkt.kind, .int .i64 x.pkt.src, .int .i64 x.pkt.dst, v1, .int .i64 x.pkt.pi, .int .i64 x.pkt.hi, .int .i64 x.pkt.beta, .int .i64 x.pkt.rid, .int .i64 x.pkt.seq, v2] 42) (.cells #[.int .i64 y.code, u0, .int .i64 y.pkt.kind, .int .i64 y.pkt.src, .int .i64 y.pkt.dst, u1, .int .i64 y.pkt.pi, .int .i64 y.pkt.hi, .int .i64 y.pkt.beta, .int .i64 y.pkt.rid, .int .i64 y.pkt.seq, u2] 42)
  have hB := al2 w (.cells #[.int .i64 x.code, v0, .int .i64 x.pkt.kind, .int .i64 x.pkt.src, .int .i64 x.pkt.dst, v1, .int .i64 x.pkt.pi, .int .i64 x.pkt.hi, .int .i64 x.pkt.beta, .int .i64 x.pkt.rid, .int .i64 x.pkt.seq, v2] 42) (.cells #[.int .i64 y.code, u0, .int .i64 y.pkt.kind, .int .i64 y.pkt.src, .int .i64 y.pkt.dst, u1, .int .i64 y.pkt.pi, .int .i64 y.pkt.hi, .int .i64 y.pkt.beta, .int .i64 y.pkt.rid, .int .i64 y.pkt.seq, u2] 42)
  have HB := Lib.hid hB; clear hB
  cases hc : (x.code != y.code)
  · rw [hc] at HEQ
    go_wp2_with fail
    refine (l_eqStepS x.steps y.steps _ _ _ (r0.ext hx0) (s0.ext hx0)).mono ?_
    rintro e w1 ⟨rfl, k1⟩
    have hx1 := hx0.trans k1
    have c0 := blk12 (k1.block HB.out.1)
    have c1 := blk12 (k1.block HB.out.2)
    cases hr : decide (x.steps = y.steps)
    · rw [hr] at HEQ
      go_wp2_with fail
      go_ret
      exact ⟨ret_bool HEQ.out.symm, hx1⟩
    · rw [hr] at HEQ
      go_wp2_with fail
      refine (l_eqPacket x.pkt y.pkt _ _ _ _ _ (r1.ext hx1) (r2.ext hx1) (s1.ext hx1) (s2.ext hx1)).mono ?_
      rintro e w2 ⟨rfl, k2⟩
      cases hu : decide (x.pkt = y.pkt)
      · rw [hu] at HEQ
        go_wp2_with fail
        go_ret
        exact ⟨ret_bool HEQ.out.symm, hx1.trans k2⟩
      · rw [hu] at HEQ
        go_wp2_with fail
        go_ret
        exact ⟨ret_bool HEQ.out.symm, hx1.trans k2⟩
  · rw [hc] at HEQ
    go_wp2_with fail
    go_ret
    exact ⟨ret_bool HEQ.out.symm, hx0⟩
def Trc.cnt (x : Trc) : Int := 3 * x.steps.length + x.pkt.cnt
def Trc.marked (k : Int) (x : Trc) : Trc := { x with steps := markL Step.mk' 3 k x.steps.length, pkt := Pkt.marked (k + 3 * x.steps.length) x.pkt }
theorem Trc.cnt_le {x : Trc} (h : x.size ≤ 1048576) : 0 ≤ x.cnt ∧ x.cnt ≤ 5242880 * 2 := by
  have h1 : x.pkt.size ≤ 1048576 := by unfold Trc.size at h; omega
  have h2 : x.steps.length ≤ 1048576 := by unfold Trc.size at h; omega
  have := Pkt.cnt_le h1
  unfold Trc.cnt; omega
theorem Pkt.cnt_nn (x : Pkt) : 0 ≤ x.cnt := by unfold Pkt.cnt markN; omega
theorem lm_StepS (l : List Step) (v : Value) (k : Int) (S : Nat → Prop) (w : World) (o : stepOwn.own S w v l) (h0 : 0 ≤ k) (h1 : k + 3 * l.length ≤ 4611686018427387904) :
    Calls Tryz.prog 60 #[v, .int .i64 k] w fun e w' => e = .returned (.int .i64 (k + 3 * l.length)) ∧ stepOwn.own S w' v (markL Step.mk' 3 k l.length) ∧ Chg S w w' :=
  (l_markStepS l v k 0 w o.1 h0 h1).mono fun _ _ ⟨he, ho, hg⟩ => ⟨he, ⟨ho, o.2⟩, Chg.ofGrown hg o.2⟩
set_option maxHeartbeats 1000000 in
theorem l_markTrace (x : Trc) (h0 h1 h2 : Value) (k : Int) (S : Nat → Prop) (w : World) (o : Trc.own S w h0 h1 h2 x) (hk : 0 ≤ k) (hm : k + x.cnt ≤ 4611686018427387904) :
    Calls Tryz.prog 21 #[.agg #[.int .i64 x.code, h0, .int .i64 x.pkt.kind, .int .i64 x.pkt.src, .int .i64 x.pkt.dst, h1, .int .i64 x.pkt.pi, .int .i64 x.pkt.hi, .int .i64 x.pkt.beta, .int .i64 x.pkt.rid, .int .i64 x.pkt.seq, h2], .int .i64 k] w fun e w' => e = .returned (.int .i64 (k + x.cnt)) ∧ Trc.own S w' h0 h1 h2 (Trc.marked k x) ∧ Chg S w w' := by
  have hce : k + x.cnt = k + 3 * x.steps.length + x.pkt.cnt := by unfold Trc.cnt; omega
  have hcn := Pkt.cnt_nn x.pkt
  rw [hce] at hm ⊢
  obtain ⟨S0, S1, o0, o1, c0, c1, hd⟩ := Trc.own_inb o
  have hx0 : Ext w (w.alloc (.cells #[.int .i64 x.code, h0, .int .i64 x.pkt.kind, .int .i64 x.pkt.src, .int .i64 x.pkt.dst, h1, .int .i64 x.pkt.pi, .int .i64 x.pkt.hi, .int .i64 x.pkt.beta, .int .i64 x.pkt.rid, .int .i64 x.pkt.seq, h2] 42)) := (Ext.refl _).alloc _
  have hB := blk_new w (.cells #[.int .i64 x.code, h0, .int .i64 x.pkt.kind, .int .i64 x.pkt.src, .int .i64 x.pkt.dst, h1, .int .i64 x.pkt.pi, .int .i64 x.pkt.hi, .int .i64 x.pkt.beta, .int .i64 x.pkt.rid, .int .i64 x.pkt.seq, h2] 42)
  have HB := Lib.hid hB; clear hB
  go_enter Tryz.func21, Tryz.ntmps21
  go_wp2_with fail
  refine (lm_StepS x.steps _ k S0 _ (Own.ext o0 hx0) hk (by omega)).mono ?_
  rintro e w1 ⟨rfl, o0', d1⟩
  have o1' := Pkt.own_kept (Pkt.own_ext o1 hx0) d1 (fun b hb h2 => hd b h2 hb)
  have hb1 := (d1.block _ (blk_lt HB.out) (fun h => by have := (c0 _ h).2; omega)).trans HB.out
  have hc := blk12 hb1
  clear hb1
  have hp : 0 ≤ k + 3 * (x.steps.length : Int) := by omega
  go_wp2_with fail
  refine (l_markPacket x.pkt _ _ (k + 3 * x.steps.length) S1 _ o1' hp hm).mono ?_
  rintro e w2 ⟨rfl, o1'', d2⟩
  have o0'' := stepOwn.kept o0' d2 (fun b hb h2 => hd b hb h2)
  go_wp2_with fail
  go_ret
  refine ⟨ret_int (by omega), ⟨S0, S1, o0'', o1'', fun b hb => (c0 b hb).1, fun b hb => (c1 b hb).1, hd⟩, ?_⟩
  exact ((Chg.ofExt hx0).trans (d1.mono (fun b hb => (c0 b hb).1))).trans (d2.mono (fun b hb => (c1 b hb).1))
end Go.Proofs.YtiabfgebfjmplaaGreat
