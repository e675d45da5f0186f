/- What these laws need: FnLeases, FnParts: The draw of a topology and a path of it. -/
import Derived.Test.YtikbeiafobnblaaKQ16
import Derived.Test.YtikbeiafobnblaaKQ26
namespace Go.Proofs.Ytikbeiafobnblaa
section
open Go.ChangeShapes Go.WideShapes Go.ChangeAt Go.RowKit Go.Deep
theorem keep_of {α : Type} {S : Nat → Prop} {r : Rep α} {w : World} {v : Value} {l : List α} {lo hi : Nat} (h : KS S r w v l) (hs : ∀ b, ¬ rng lo hi b → S b) : (Own.keep r).own (rng lo hi) w v l := fun w' c => h w' (c.mono hs)
def paS (n b5 b6 b8 : Nat) : Nat → Prop := fun b => b < n + 2 ∨ b = b5 ∨ b = b6 ∨ b = b8
/-- A path that is being drawn. -/
structure PaSt (S : Nat → Prop) (g : Nat) (cv : Value) (cd : List Int) (w : World) (b4 b5 b6 b7 b8 : Nat) (v1 v2 vu vd vc vp : Value) (t : Topo) (u d c : Seg) (wr : World) : Prop where
 cu : Cur g cv cd wr
 x : Chg (at1 g) w wr
 c0 : Cur g cv cd w
 p2 : wr.heap[w.heap.size]? = some (.cells #[.slice none 0 0, .slice none 0 0] 41 (0, 0))
 p3 : wr.heap[w.heap.size + 1]? = some (.cells #[.slice none 0 0] 46 (0, 0))
 p4 : wr.heap[b4]? = some (.cells #[v1, v2] 41 (0, 0))
 p5 : wr.heap[b5]? = some (.cells #[.int .i64 u.ts, .int .i64 u.beta, vu] 60 (0, 0))
 p6 : wr.heap[b6]? = some (.cells #[.int .i64 d.ts, .int .i64 d.beta, vd] 60 (0, 0))
 p7 : wr.heap[b7]? = some (.cells #[.int .i64 c.ts, .int .i64 c.beta, vc] 60 (0, 0))
 p8 : wr.heap[b8]? = some (.cells #[vp] 46 (0, 0))
 ka : KS S ASd.rep wr v1 t.ases
 kl : KS S Lnk.rep wr v2 t.links
 ku : KS S Hop.rep wr vu u.hops
 kd : KS S Hop.rep wr vd d.hops
 kc : KS S Hop.rep wr vc c.hops
 hS : ∀ b, paS w.heap.size b5 b6 b8 b → S b
 o4 : w.heap.size + 1 < b4
 o5 : b4 < b5
 o6 : b5 < b6
 o7 : b6 < b7
 o8 : b7 < b8
namespace PaSt
variable {S : Nat → Prop} {g : Nat} {cv : Value} {cd : List Int} {w : World} {b4 b5 b6 b7 b8 : Nat} {v1 v2 vu vd vc vp : Value} {t : Topo} {u d c : Seg} {wr : World}
theorem sg (s : PaSt S g cv cd w b4 b5 b6 b7 b8 v1 v2 vu vd vc vp t u d c wr) : S g := s.hS g (.inl (by have h1 := s.c0.lt; omega))
theorem draw (s : PaSt S g cv cd w b4 b5 b6 b7 b8 v1 v2 vu vd vc vp t u d c wr) {w' : World} (hc : Cur g cv cd w') (hx : Chg (at1 g) wr w') : PaSt S g cv cd w b4 b5 b6 b7 b8 v1 v2 vu vd vc vp t u d c w' :=
 have e1 := s.c0.lt
 have e4 := s.o4
 have e5 := s.o5
 have e6 := s.o6
 have e7 := s.o7
 have e8 := s.o8
 have hg : ∀ b, at1 g b → S b := fun b hb => by have h1 : b = g := hb; rw [h1]; exact s.sg
 ⟨hc, s.x.trans hx, s.c0, hx.blkS s.p2 (by unfold at1; omega), hx.blkS s.p3 (by unfold at1; omega), hx.blkS s.p4 (by unfold at1; omega), hx.blkS s.p5 (by unfold at1; omega), hx.blkS s.p6 (by unfold at1; omega), hx.blkS s.p7 (by unfold at1; omega), hx.blkS s.p8 (by unfold at1; omega),
  s.ka.step hx hg, s.kl.step hx hg, s.ku.step hx hg, s.kd.step hx hg, s.kc.step hx hg, s.hS, e4, e5, e6, e7, e8⟩
theorem ext (s : PaSt S g cv cd w b4 b5 b6 b7 b8 v1 v2 vu vd vc vp t u d c wr) {w' : World} (hx : Ext wr w') : PaSt S g cv cd w b4 b5 b6 b7 b8 v1 v2 vu vd vc vp t u d c w' := s.draw (s.cu.ext hx) (Chg.ofExt hx)
theorem up (s : PaSt S g cv cd w b4 b5 b6 b7 b8 v1 v2 vu vd vc vp t u d c wr) {w' : World} {T : Nat → Prop} (hx : Chg T wr w') (hT : ∀ b, T b → w.heap.size ≤ b) : Cur g cv cd w' ∧ Chg (at1 g) w w' := by
 have h1 := Chg.up s.x hx (fun i hi => .inr (hT i hi))
 exact ⟨Cur.kept s.c0 s.cu hx (fun h => by have h2 := hT _ h; have h3 := s.c0.lt; omega) h1, h1⟩
/-- The path has grown. -/
theorem grow {M : Nat} (s : PaSt S g cv cd w b4 b5 b6 b7 b8 v1 v2 vu vd vc vp t u d c wr) (hM : b8 < M) (hSM : ∀ b, M ≤ b → S b) {w' : World} {vp' : Value} (hx : Chg (fun b => b = b8 ∨ M ≤ b) wr w') (h8 : w'.heap[b8]? = some (.cells #[vp'] 46 (0, 0))) : PaSt S g cv cd w b4 b5 b6 b7 b8 v1 v2 vu vd vc vp' t u d c w' := by
 have e4 := s.o4
 have e5 := s.o5
 have e6 := s.o6
 have e7 := s.o7
 have e8 := s.o8
 have hT : ∀ b, (b = b8 ∨ M ≤ b) → S b := fun b hb => by
  rcases hb with hb | hb
  ·
   exact s.hS b (.inr (.inr (.inr hb)))
  ·
   exact hSM b hb
 obtain ⟨q1, q2⟩ := s.up hx (fun b hb => by omega)
 exact ⟨q1, q2, s.c0, hx.blkS s.p2 (by omega), hx.blkS s.p3 (by omega), hx.blkS s.p4 (by omega), hx.blkS s.p5 (by omega), hx.blkS s.p6 (by omega), hx.blkS s.p7 (by omega), h8,
  s.ka.step hx hT, s.kl.step hx hT, s.ku.step hx hT, s.kd.step hx hT, s.kc.step hx hT, s.hS, e4, e5, e6, e7, e8⟩
/-- The results are written. -/
theorem fin {M : Nat} (s : PaSt S g cv cd w b4 b5 b6 b7 b8 v1 v2 vu vd vc vp t u d c wr) (hSM : ∀ b, M ≤ b → S b) {vq : Value} {l : List Part} {hi : Nat} (ho : Part.own.own (rng M hi) wr vq l) (hM : w.heap.size + 1 < M) (hMw : M ≤ wr.heap.size) :
  ∃ wa wb, wa = (wr.setCell ⟨w.heap.size, 0, none⟩ v1).setCell ⟨w.heap.size, 1, none⟩ v2 ∧ wb = wa.setCell ⟨w.heap.size + 1, 0, none⟩ vq ∧ wa.heap[w.heap.size + 1]? = some (.cells #[.slice none 0 0] 46 (0, 0)) ∧ wb.heap[w.heap.size]? = some (.cells #[v1, v2] 41 (0, 0)) ∧ wb.heap[w.heap.size + 1]? = some (.cells #[vq] 46 (0, 0)) ∧
   Cur g cv cd wb ∧ Chg (at1 g) w wb ∧ (Own.keep ASd.rep).own (rng w.heap.size M) wb v1 t.ases ∧ (Own.keep Lnk.rep).own (rng w.heap.size M) wb v2 t.links ∧ Part.own.own (rng M hi) wb vq l ∧ Chg (at1 w.heap.size) wr wa ∧ M ≤ wb.heap.size := by
 obtain ⟨wa, ea, ha, ca⟩ := two_set s.p2 v1 v2
 have h3 := ca.blkS s.p3 (by unfold at1; omega)
 obtain ⟨wb, eb, hb, cb⟩ := one_set h3 0 vq
 simp only [List.setIfInBounds_toArray, List.set_cons_zero] at hb
 have hx : Chg (fun b => b = w.heap.size ∨ b = w.heap.size + 1) wr wb := (ca.mono (fun b h => .inl h)).trans (cb.mono (fun b h => .inr h))
 have hT : ∀ b, (b = w.heap.size ∨ b = w.heap.size + 1) → S b := fun b h => s.hS b (.inl (by omega))
 obtain ⟨q1, q2⟩ := s.up hx (fun b h => by omega)
 have hk : ∀ b, ¬ rng w.heap.size M b → S b := fun b h => by
  by_cases h1 : b < w.heap.size
  ·
   exact s.hS b (.inl (by omega))
  ·
   exact hSM b (by unfold rng at h; omega)
 exact ⟨wa, wb, ea, eb, h3, cb.blkS ha (by unfold at1; omega), hb, q1, q2, keep_of (s.ka.step hx hT) hk, keep_of (s.kl.step hx hT) hk, Own.chgR ho hx (fun b h => .inl (by omega)), ca, Nat.le_trans hMw hx.size⟩
end PaSt
end
end Go.Proofs.Ytikbeiafobnblaa
