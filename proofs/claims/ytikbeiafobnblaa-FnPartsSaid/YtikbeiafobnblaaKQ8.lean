/- What these laws need: FnExactFormatTrace, FnLeases, FnParts: The data of traces, how they read, what they own, and the contracts of the laws' helper functions over them. Ownership of a topology and its marks. -/
import Derived.Test.YtikbeiafobnblaaKQ4
namespace Go.Proofs.Ytikbeiafobnblaa
section
open Go.ChangeShapes Go.WideShapes Go.ChangeAt Go.RowKit Go.Deep
theorem blk12 {w : World} {b : Nat} {x0 x1 x2 x3 x4 x5 x6 x7 x8 x9 x10 x11 : Value} {t : TypeId} {f : Nat × Nat} (h : w.heap[b]? = some (.cells #[x0, x1, x2, x3, x4, x5, x6, x7, x8, x9, x10, x11] t f)) :
    w.cell? ⟨b, 0, none⟩ = some x0 ∧ w.cell? ⟨b, 1, none⟩ = some x1 ∧ w.cell? ⟨b, 2, none⟩ = some x2 ∧ w.cell? ⟨b, 3, none⟩ = some x3 ∧ w.cell? ⟨b, 4, none⟩ = some x4 ∧ w.cell? ⟨b, 5, none⟩ = some x5 ∧ w.cell? ⟨b, 6, none⟩ = some x6 ∧ w.cell? ⟨b, 7, none⟩ = some x7 ∧ w.cell? ⟨b, 8, none⟩ = some x8 ∧ w.cell? ⟨b, 9, none⟩ = some x9 ∧ w.cell? ⟨b, 10, none⟩ = some x10 ∧ w.cell? ⟨b, 11, none⟩ = some x11 :=
  ⟨blk_cell h 0, blk_cell h 1, blk_cell h 2, blk_cell h 3, blk_cell h 4, blk_cell h 5, blk_cell h 6, blk_cell h 7, blk_cell h 8, blk_cell h 9, blk_cell h 10, blk_cell h 11⟩
structure Trc where
  code : Int
  steps : List Step
  pkt : Pkt
  deriving DecidableEq
def Trc.size (x : Trc) : Nat := x.steps.length + x.pkt.size
def Trc.rep : Rep Trc where
  cells := 12
  rd w cs x := ∃ v0 v1 v2, cs = [.int .i64 x.code, v0, .int .i64 x.pkt.kind, .int .i64 x.pkt.src, .int .i64 x.pkt.dst, v1, .int .i64 x.pkt.pi, .int .i64 x.pkt.hi, .int .i64 x.pkt.beta, .int .i64 x.pkt.rid, .int .i64 x.pkt.seq, v2] ∧ RdS Step.rep w v0 x.steps ∧ RdS Part.rep w v1 x.pkt.path.parts ∧ RdS Rep.byte w v2 x.pkt.pay
  len := by rintro w cs a ⟨v0, v1, v2, rfl, _⟩; rfl
  ext := by rintro w w' cs a e ⟨v0, v1, v2, rfl, h0, h1, h2⟩; exact ⟨v0, v1, v2, rfl, h0.ext e, h1.ext e, h2.ext e⟩
def Trc.ok (x : Trc) : Prop := I64 x.code ∧ (∀ y ∈ x.steps, Step.ok y) ∧ x.pkt.ok
set_option maxHeartbeats 1000000 in
theorem Trc.opens : Opens Try.prog 34 Trc.rep Trc.ok := by
  intro H enc w base spare held fuel cs x h
  obtain ⟨xs, n, _, _, hcl, hxl, hf⟩ := DataW.trod_struct Try.underlying34 h
  have hC : Try.prog.cellsOf 34 = 12 := by kernel_rfl
  have hi1 : Try.prog.cellsOf 3 = 1 := by kernel_rfl
  have hi2 : Try.prog.cellsOf 26 = 1 := by kernel_rfl
  have hi3 : Try.prog.cellsOf 32 = 10 := by kernel_rfl
  obtain ⟨c0, c1, cs, rfl⟩ : ∃ c0 c1 cs', cs = c0 :: c1 :: cs' := by
    rcases cs with _ | ⟨c0, _ | ⟨c1, cs'⟩⟩
    · simp [hC] at hcl
    · simp [hC] at hcl
    · exact ⟨_, _, _, rfl⟩
  have hcl2 : cs.length = 10 := by have := hcl.trans hC; simpa using this
  obtain ⟨y0, y1, y2, rfl⟩ := len3 hxl
  have h0 := hf 0 _ rfl
  simp [hi1] at h0
  obtain ⟨n0, r0, k0⟩ := opens_int Try.underlying3 h0
  cases r0
  have h1 := hf 1 _ rfl
  simp [hi2] at h1
  obtain ⟨l1, ⟨v1, e1, r1⟩, k1⟩ := Step.opensS h1
  cases e1
  have h2 := hf 2 _ rfl
  simp [hi3] at h2
  rw [List.take_of_length_le (by omega)] at h2
  obtain ⟨l2, ⟨v2, v3, e2, r2, r3⟩, k2⟩ := Pkt.opens h2
  subst e2
  exact ⟨⟨n0, l1, l2⟩, ⟨_, _, _, rfl, r1, r2, r3⟩, k0, k1, k2⟩
def stepOwn : Own Step := Own.flat Step.f 3 Step.flen 120
/-- What a trace's handles own: sets that share no block. -/
def Trc.own (S : Nat → Prop) (w : World) (h0 h1 h2 : Value) (x : Trc) : Prop :=
  ∃ S0 S1 : Nat → Prop, stepOwn.own S0 w h0 x.steps ∧ Pkt.own S1 w h1 h2 x.pkt ∧ (∀ b, S0 b → S b) ∧ (∀ b, S1 b → S b) ∧ ∀ b, S0 b → ¬ S1 b
theorem Trc.own_kept {S T : Nat → Prop} {w w' : World} {h0 h1 h2 : Value} {x : Trc} (h : Trc.own S w h0 h1 h2 x) (c : Chg T w w') (hs : ∀ b, S b → ¬ T b) : Trc.own S w' h0 h1 h2 x := by
  obtain ⟨S0, S1, a, b, c0, c1, d⟩ := h
  exact ⟨S0, S1, stepOwn.kept a c (fun k hk => hs k (c0 k hk)), Pkt.own_kept b c (fun k hk => hs k (c1 k hk)), c0, c1, d⟩
theorem Trc.own_ext {S : Nat → Prop} {w w' : World} {h0 h1 h2 : Value} {x : Trc} (h : Trc.own S w h0 h1 h2 x) (e : Ext w w') : Trc.own S w' h0 h1 h2 x :=
  Trc.own_kept h (Chg.ofExt (S := noB) e) (fun _ _ h => h)
theorem Trc.own_mono {S T : Nat → Prop} {w : World} {h0 h1 h2 : Value} {x : Trc} (h : Trc.own S w h0 h1 h2 x) (hs : ∀ b, S b → T b) : Trc.own T w h0 h1 h2 x := by
  obtain ⟨S0, S1, a, b, c0, c1, d⟩ := h
  exact ⟨S0, S1, a, b, fun k hk => hs k (c0 k hk), fun k hk => hs k (c1 k hk), d⟩
theorem Trc.own_rd0 {S : Nat → Prop} {w : World} {h0 h1 h2 : Value} {x : Trc} (h : Trc.own S w h0 h1 h2 x) : RdS Step.rep w h0 x.steps := by
  obtain ⟨S0, S1, a, _⟩ := h; exact stepOwn.rd a
theorem Trc.own_rd1 {S : Nat → Prop} {w : World} {h0 h1 h2 : Value} {x : Trc} (h : Trc.own S w h0 h1 h2 x) : RdS Part.rep w h1 x.pkt.path.parts := by
  obtain ⟨S0, S1, _, b, _⟩ := h; exact Pkt.own_rd0 b
theorem Trc.own_rd2 {S : Nat → Prop} {w : World} {h0 h1 h2 : Value} {x : Trc} (h : Trc.own S w h0 h1 h2 x) : RdS Rep.byte w h2 x.pkt.pay := by
  obtain ⟨S0, S1, _, b, _⟩ := h; exact Pkt.own_rd1 b
theorem Trc.own_inb {S : Nat → Prop} {w : World} {h0 h1 h2 : Value} {x : Trc} (h : Trc.own S w h0 h1 h2 x) : Trc.own (fun b => S b ∧ b < w.heap.size) w h0 h1 h2 x := by
  obtain ⟨S0, S1, a, b, c0, c1, d⟩ := h
  exact ⟨_, _, stepOwn.inb a, Pkt.own_inb b, fun k hk => ⟨c0 k hk.1, hk.2⟩, fun k hk => ⟨c1 k hk.1, hk.2⟩, fun k hk h2 => d k hk.1 h2.1⟩
def Trc.cnt (x : Trc) : Int := 3 * x.steps.length + x.pkt.cnt
def Trc.marked (k : Int) (x : Trc) : Trc := { x with steps := markL Step.mk' 3 k x.steps.length, pkt := Pkt.marked (k + 3 * x.steps.length) x.pkt }
theorem Trc.cnt_le {x : Trc} (h : x.size ≤ 1048576) : 0 ≤ x.cnt ∧ x.cnt ≤ 5242880 * 2 := by
  have h1 : x.pkt.size ≤ 1048576 := by unfold Trc.size at h; omega
  have h2 : x.steps.length ≤ 1048576 := by unfold Trc.size at h; omega
  have := Pkt.cnt_le h1
  unfold Trc.cnt; omega
theorem Pkt.cnt_nn (x : Pkt) : 0 ≤ x.cnt := by unfold Pkt.cnt markN; omega
end
section
open Go.ChangeShapes Go.WideShapes Go.ChangeAt Go.RowKit Go.Deep
def ASd.mk' (k : Int) : ASd := ⟨k, decide ((k + 1) % 3 = 0), k + 1 + 1⟩
theorem core_mark (k : Int) (_ : 0 ≤ k) : ((k + 1) % 3 == 0) = decide ((k + 1) % 3 = 0) := by
  by_cases e : (k + 1) % 3 = 0 <;> simp [e]
def asOwn : Own ASd := Own.flat ASd.f 3 ASd.flen 179
def lnkOwn : Own Lnk := Own.flat Lnk.f 5 Lnk.flen 183
/-- What a topology's two handles own: two sets that share no block. -/
def Topo.own (S : Nat → Prop) (w : World) (h0 h1 : Value) (x : Topo) : Prop :=
  ∃ S0 S1 : Nat → Prop, asOwn.own S0 w h0 x.ases ∧ lnkOwn.own S1 w h1 x.links ∧ (∀ b, S0 b → S b) ∧ (∀ b, S1 b → S b) ∧ ∀ b, S0 b → ¬ S1 b
theorem Topo.own_kept {S T : Nat → Prop} {w w' : World} {h0 h1 : Value} {x : Topo} (h : Topo.own S w h0 h1 x) (c : Chg T w w') (hs : ∀ b, S b → ¬ T b) : Topo.own S w' h0 h1 x := by
  obtain ⟨S0, S1, a, b, c0, c1, d⟩ := h
  exact ⟨S0, S1, asOwn.kept a c (fun k hk => hs k (c0 k hk)), lnkOwn.kept b c (fun k hk => hs k (c1 k hk)), c0, c1, d⟩
theorem Topo.own_ext {S : Nat → Prop} {w w' : World} {h0 h1 : Value} {x : Topo} (h : Topo.own S w h0 h1 x) (e : Ext w w') : Topo.own S w' h0 h1 x :=
  Topo.own_kept h (Chg.ofExt (S := noB) e) (fun _ _ h => h)
theorem Topo.own_mono {S T : Nat → Prop} {w : World} {h0 h1 : Value} {x : Topo} (h : Topo.own S w h0 h1 x) (hs : ∀ b, S b → T b) : Topo.own T w h0 h1 x := by
  obtain ⟨S0, S1, a, b, c0, c1, d⟩ := h
  exact ⟨S0, S1, a, b, fun k hk => hs k (c0 k hk), fun k hk => hs k (c1 k hk), d⟩
theorem Topo.own_rd0 {S : Nat → Prop} {w : World} {h0 h1 : Value} {x : Topo} (h : Topo.own S w h0 h1 x) : RdS ASd.rep w h0 x.ases := by
  obtain ⟨S0, S1, a, _⟩ := h; exact asOwn.rd a
theorem Topo.own_rd1 {S : Nat → Prop} {w : World} {h0 h1 : Value} {x : Topo} (h : Topo.own S w h0 h1 x) : RdS Lnk.rep w h1 x.links := by
  obtain ⟨S0, S1, _, b, _⟩ := h; exact lnkOwn.rd b
theorem Topo.own_inb {S : Nat → Prop} {w : World} {h0 h1 : Value} {x : Topo} (h : Topo.own S w h0 h1 x) : Topo.own (fun b => S b ∧ b < w.heap.size) w h0 h1 x := by
  obtain ⟨S0, S1, a, b, c0, c1, d⟩ := h
  exact ⟨_, _, asOwn.inb a, lnkOwn.inb b, fun k hk => ⟨c0 k hk.1, hk.2⟩, fun k hk => ⟨c1 k hk.1, hk.2⟩, fun k hk h2 => d k hk.1 h2.1⟩
/-- Two rows of different element types share no block. -/
theorem OwnF.apartT {α β : Type} {n m : Nat} {f : α → List Value} {f' : β → List Value} {base base' : Nat} {e e' : TypeId} {w : World} {v v' : Value} {l : List α} {l' : List β} (h : OwnF f n base e w v l) (h' : OwnF f' m base' e' w v' l') (hne : e ≠ e') {b : Nat} (hb : v.ownBlock = some b) : v'.ownBlock ≠ some b := by
  rcases h.2 with ⟨rfl, _⟩ | ⟨g, cap, cur, rfl, _, hg, _⟩
  · simp [Value.ownBlock] at hb
  · have : g = b := by simpa [Value.ownBlock] using hb
    subst this
    exact OwnF.ne h' hg (fun x => hne x.symm)
theorem Topo.own_of {base : Nat} {w : World} {u1 u2 : Value} {x : Topo} (o1 : OwnF ASd.f 3 base 179 w u1 x.ases) (o2 : OwnF Lnk.f 5 base 183 w u2 x.links) : Topo.own (rng base w.heap.size) w u1 u2 x :=
  ⟨fun b => u1.ownBlock = some b, fun b => u2.ownBlock = some b, ⟨o1.to0, fun _ h => h⟩, ⟨o2.to0, fun _ h => h⟩, fun b hb => o1.block b hb, fun b hb => o2.block b hb, fun _ hb h2 => OwnF.apartT o1 o2 (by decide) hb h2⟩
def Topo.cnt (x : Topo) : Int := 3 * x.ases.length + 5 * x.links.length
def Topo.marked (k : Int) (x : Topo) : Topo := ⟨markL ASd.mk' 3 k x.ases.length, markL Lnk.mk' 5 (k + 3 * x.ases.length) x.links.length⟩
theorem Topo.cnt_le {x : Topo} (h : x.size ≤ 1048576) : 0 ≤ x.cnt ∧ x.cnt ≤ 5242880 := by
  unfold Topo.size at h; unfold Topo.cnt; omega
end
end Go.Proofs.Ytikbeiafobnblaa
