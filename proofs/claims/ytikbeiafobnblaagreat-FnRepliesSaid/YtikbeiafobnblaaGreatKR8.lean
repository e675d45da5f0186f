/- What these laws need: FnFlips, FnForwards, FnHopsPassed, FnReplies: A packet's whole walk: its steps are a first part of the path's steps from its place on; it ends; each step is of an AS that had a valid hop for it. When a packet that began right is delivered: exactly if every hop on its way verifies and is in time, where every AS permits. Parts as they are drawn: of segments whose hops are sealed; they verify, in both directions. Contracts of the tests of parts and paths, program and reference. Contracts of the tests of whole paths: order of parts, interfaces, codes, expiry, program and reference. Contracts of simple, verified and usable paths, program and reference. -/
import Derived.Test.YtikbeiafobnblaaGreatKR7
namespace Go.Proofs.YtikbeiafobnblaaGreat
section
open Go.RowKit
/-- Some hop of the path is of the step's AS, with one of its interfaces, in time. -/
def doorOk (now : Int) (ps : List Part) (s : Step) : Prop :=
  ∃ j i, j < ps.length ∧ i < (partAt ps j).hops.length ∧ (hopAt (partAt ps j).hops i).asn = s.asn ∧
    ((hopAt (partAt ps j).hops i).ing = s.ing ∨ (hopAt (partAt ps j).hops i).eg = s.ing ∨ (hopAt (partAt ps j).hops i).ing = s.eg ∨ (hopAt (partAt ps j).hops i).eg = s.eg ∨ (s.ing = 0 ∧ s.eg = 0)) ∧
    now ≤ (hopAt (partAt ps j).hops i).exp ∧ (partAt ps j).ts ≤ now
/-- What a walk has done, from a place on. -/
structure Trod (t : Topo) (now : Int) (dead : List Int) (x : Pkt) (inn : Int) (l : List Step) (w : Trc) where
  pre : List Step
  suf : List Step
  cut : walkAt x inn = pre ++ suf
  steps : w.steps = l ++ pre
  code : w.code ≠ 0
  all : w.code = 1 → suf = []
  short : w.code ≠ 1 → simple t x.path = true → hasHop x = true → suf ≠ []
  door : ∀ s ∈ pre, doorOk now x.path.parts s
  okS : ∀ s ∈ pre, stepOk t s = true ∨ (s.eg = 0 ∧ ((s.asn = curAs x ∧ s.ing = inn) ∨ ∃ s', stepOk t s' = true ∧ remEnd t s'.asn s'.eg = (s.asn, s.ing)))
end
section
open Go.RowKit
/-- A place is not ahead of a packet. -/
def after (x : Pkt) (j i : Nat) : Prop := x.pi.toNat < j ∨ (x.pi.toNat = j ∧ x.hi.toNat ≤ i)
theorem betaAfter_to {x : Part} {i : Nat} (h : i ≤ x.hops.length) : betaAfter x i = betaTo x i := by
  unfold betaAfter; rw [if_pos (by omega)]; simp
end
section
open Go.RowKit
def mkPart (s : Seg) (kind : Int) (k : Nat) : Part := if isRev kind then ⟨kind, s.ts, betaAt s s.hops.length, (s.hops.drop k).reverse⟩ else ⟨kind, s.ts, betaAt s k, s.hops.drop k⟩
def makePart (s : Seg) (kind k : Int) : Part := if inR k 0 ((s.hops.length : Int) - 1) && inR kind 1 4 then mkPart s kind k.toNat else ⟨0, 0, 0, []⟩
theorem mkPart_len (s : Seg) (kind : Int) (k : Nat) : (mkPart s kind k).hops.length = s.hops.length - k := by unfold mkPart; split <;> simp
structure PartDrawn (t : Topo) (x : Part) : Prop where
  how : ∃ (kd : Int) (s : Seg) (kind : Int) (k : Nat), SegDrawn t kd s ∧ (1 ≤ kind ∧ kind ≤ 4) ∧ k < s.hops.length ∧ x = mkPart s kind k
structure PthDrawn (t : Topo) (p : Pth) : Prop where
  len : p.parts.length ≤ 3
  part : ∀ x ∈ p.parts, PartDrawn t x
theorem makePart_drawn {t : Topo} {kd : Int} {s : Seg} (h : SegDrawn t kd s) {kind : Int} (hk : 1 ≤ kind ∧ kind ≤ 4) {k : Nat} (hl : k < s.hops.length) : PartDrawn t (makePart s kind k) :=
  ⟨⟨kd, s, kind, k, h, hk, hl, by unfold makePart; rw [if_pos (by simp only [Bool.and_eq_true, inR_true]; omega), Int.toNat_natCast]⟩⟩
theorem PartDrawn.len {t : Topo} {x : Part} (h : PartDrawn t x) : 1 ≤ x.hops.length ∧ x.hops.length ≤ 5 := by
  obtain ⟨kd, s, kind, k, h1, h2, h3, rfl⟩ := h.how
  have := h1.len
  rw [mkPart_len]; omega
theorem hopsN_all {m : Nat} : ∀ {l : List Part}, (∀ x ∈ l, x.hops.length ≤ m) → hopsN l ≤ m * l.length
  | [], _ => by simp [hopsN]
  | x :: l, h => by
    have h1 := hopsN_all (l := l) (fun y hy => h y (by simp [hy]))
    have h2 := h x (by simp)
    have h3 : hopsN (x :: l) = x.hops.length + hopsN l := by simp [hopsN, Part.size]
    rw [h3, List.length_cons, Nat.mul_succ]; omega
theorem PthDrawn.size {t : Topo} {p : Pth} (h : PthDrawn t p) : p.size ≤ 18 := by
  have h1 := hopsN_all (l := p.parts) (m := 5) (fun x hx => (h.part x hx).len.2)
  have := h.len
  unfold Pth.size; omega
theorem PthDrawn.nil (t : Topo) : PthDrawn t ⟨[]⟩ := ⟨by simp, fun x hx => by cases hx⟩
theorem PthDrawn.snoc {t : Topo} {l : List Part} (h : PthDrawn t ⟨l⟩) (hl : l.length ≤ 2) {x : Part} (hx : PartDrawn t x) : PthDrawn t ⟨l ++ [x]⟩ :=
  ⟨by simp; omega, fun y hy => by
    rcases List.mem_append.1 hy with h1 | h1
    · exact h.part y h1
    · obtain rfl := List.mem_singleton.1 h1; exact hx⟩
theorem SegDrawn.valid {t : Topo} (T : TopoOk t) {kd : Int} {s : Seg} (h : SegDrawn t kd s) {i : Nat} (hi : i < s.hops.length) : validHop s.hops[i] = true := by
  have := h.ver T i hi
  unfold verHop at this
  simp only [Bool.and_eq_true] at this
  exact this.1.1
theorem valid_mac {h : Hop} (hv : validHop h = true) : isRes h.mac = true := by unfold validHop at hv; simp only [Bool.and_eq_true] at hv; exact hv.2
theorem SegDrawn.resB {t : Topo} {kd : Int} {s : Seg} (h : SegDrawn t kd s) (i : Nat) (hi : i ≤ s.hops.length) : isRes (betaAt s i) = true := by
  rw [betaAt_nat hi]; exact chainAdd_res _ _ (isRes_of h.beta.1 h.beta.2)
theorem betaAt_succ {s : Seg} {i : Nat} (hi : i < s.hops.length) : betaAt s (i + 1 : Nat) = addMod (betaAt s i) s.hops[i].mac := by
  have h := chainAdd_snoc (b := s.beta) (l := s.hops.map (·.mac)) (k := i) (by simpa using hi)
  rw [betaAt_nat (by omega), betaAt_nat (by omega), List.map_take, List.map_take, h]
  simp
theorem part_beta {t : Topo} (T : TopoOk t) {kd : Int} {s : Seg} (h : SegDrawn t kd s) {kind : Int} {k : Nat} (hk : k ≤ s.hops.length) : ∀ (i : Nat), i ≤ s.hops.length - k →
    betaTo (mkPart s kind k) i = if isRev kind then betaAt s (s.hops.length - i : Nat) else betaAt s (k + i : Nat)
  | 0, _ => by
    cases hr : isRev kind
    · unfold mkPart; rw [hr]; simp [betaTo]
    · unfold mkPart; rw [hr]; simp [betaTo]
  | i + 1, hi => by
    have ih := part_beta T h (kind := kind) hk i (by omega)
    rw [betaTo_succ (by rw [mkPart_len]; omega), ih]
    cases hr : isRev kind
    · have e1 : (mkPart s kind k).kind = kind := by unfold mkPart; rw [hr]; rfl
      rw [e1, hr]
      simp only [Bool.false_eq_true, if_false]
      have e2 : ((mkPart s kind k).hops[i]'(by rw [mkPart_len]; omega)) = s.hops[k + i]'(by omega) := by
        simp only [mkPart, hr, Bool.false_eq_true, if_false, List.getElem_drop]
      rw [e2, ← Nat.add_assoc, betaAt_succ (by omega)]
    · have e1 : (mkPart s kind k).kind = kind := by unfold mkPart; rw [hr]; rfl
      rw [e1, hr]
      simp only [if_true]
      have e2 : ((mkPart s kind k).hops[i]'(by rw [mkPart_len]; omega)) = s.hops[s.hops.length - 1 - i]'(by omega) := by
        simp only [mkPart, hr, if_true, List.getElem_reverse, List.getElem_drop, List.length_drop]
        congr 1; omega
      have e3 : s.hops.length - i = (s.hops.length - (i + 1)) + 1 := by omega
      have e4 : s.hops.length - 1 - i = s.hops.length - (i + 1) := by omega
      rw [e2, e3, betaAt_succ (by omega)]
      have e5 : s.hops[s.hops.length - 1 - i]'(by omega) = s.hops[s.hops.length - (i + 1)]'(by omega) := by congr 1
      rw [e5]
      exact sub_add (h.resB _ (by omega)) (valid_mac (h.valid T (by omega)))
theorem mkPart_kind (s : Seg) (kind : Int) (k : Nat) : (mkPart s kind k).kind = kind ∧ (mkPart s kind k).ts = s.ts := by unfold mkPart; split <;> exact ⟨rfl, rfl⟩
/-- The hop of the segment that a part's hop is. -/
def partHop (s : Seg) (kind : Int) (k i : Nat) : Nat := if isRev kind then s.hops.length - 1 - i else k + i
theorem partHop_lt {s : Seg} {kind : Int} {k i : Nat} (hi : i < s.hops.length - k) : partHop s kind k i < s.hops.length := by unfold partHop; split <;> omega
theorem part_hop {s : Seg} {kind : Int} {k i : Nat} (hi : i < s.hops.length - k) : hopAt (mkPart s kind k).hops i = s.hops[partHop s kind k i]'(partHop_lt hi) := by
  rw [hopAt_at (by rw [mkPart_len]; exact hi)]
  cases hr : isRev kind
  · have : partHop s kind k i = k + i := by unfold partHop; rw [hr]; rfl
    simp only [mkPart, hr, Bool.false_eq_true, if_false, List.getElem_drop, this]
  · have : partHop s kind k i = s.hops.length - 1 - i := by unfold partHop; rw [hr]; rfl
    simp only [mkPart, hr, if_true, List.getElem_reverse, List.getElem_drop, List.length_drop, this]
    congr 1; omega
theorem part_for {t : Topo} (T : TopoOk t) {kd : Int} {s : Seg} (h : SegDrawn t kd s) {kind : Int} {k i : Nat} (hi : i < s.hops.length - k) : betaFor (mkPart s kind k) i = betaAt s (partHop s kind k i) := by
  unfold betaFor
  rw [(mkPart_kind s kind k).1, betaAfter_to (by rw [mkPart_len]; omega), betaAfter_to (by rw [mkPart_len]; omega), part_beta T h (by omega) _ (by omega), part_beta T h (by omega) _ (by omega)]
  unfold partHop
  split
  · congr 1; omega
  · rfl
theorem mkPart_ver {t : Topo} (T : TopoOk t) {kd : Int} {s : Seg} (h : SegDrawn t kd s) {kind : Int} {k : Nat} : verPart t (mkPart s kind k) = true := by
  unfold verPart
  rw [allTo_true]
  intro i hi
  rw [mkPart_len] at hi
  rw [part_for T h hi, part_hop hi, (mkPart_kind s kind k).2]
  exact h.ver T _ (partHop_lt hi)
theorem PartDrawn.ver {t : Topo} (T : TopoOk t) {x : Part} (h : PartDrawn t x) : verPart t x = true := by
  obtain ⟨kd, s, kind, k, h1, _, _, rfl⟩ := h.how
  exact mkPart_ver T h1
theorem PthDrawn.ver {t : Topo} (T : TopoOk t) {p : Pth} (h : PthDrawn t p) : verPath t p = true := by
  unfold verPath
  rw [allTo_true]
  intro i hi
  rw [partAt_at hi]
  exact (h.part _ (List.getElem_mem _)).ver T
theorem Grown.exp {t : Topo} {kind ts beta : Int} {r inn : Int} {hs : List Hop} (h : Grown t kind ts beta r inn hs) : ∀ x ∈ hs, ts + 50 ≤ x.exp ∧ x.exp ≤ ts + 99 := by
  induction h with
  | start => intro x hx; cases hx
  | step r inn out e hs _ _ _ _ h1 h2 ih =>
    intro x hx
    rcases List.mem_append.1 hx with h | h
    · exact ih x h
    · obtain rfl := List.mem_singleton.1 h
      exact ⟨h1, h2⟩
theorem SegDrawn.exps {t : Topo} {kd : Int} {s : Seg} (h : SegDrawn t kd s) : ∀ x ∈ s.hops, 50 ≤ x.exp ∧ x.exp ≤ 148 := by
  have h0 := h.ts
  rcases h.how with ⟨r, inn, g⟩ | h1 | ⟨r, inn, e, hs, g, _, he1, he2, h1⟩
  · intro x hx; have := g.exp x hx; omega
  · rw [h1]; intro x hx; cases hx
  · rw [h1]; intro x hx
    rcases List.mem_append.1 hx with h | h
    · have := g.exp x h; omega
    · obtain rfl := List.mem_singleton.1 h
      show 50 ≤ e ∧ e ≤ 148
      omega
structure PartGood (x : Part) : Prop where
  kind : 1 ≤ x.kind ∧ x.kind ≤ 4
  ts : 0 ≤ x.ts ∧ x.ts ≤ 49
  beta : isRes x.beta = true
  len : 1 ≤ x.hops.length ∧ x.hops.length ≤ 5
  hops : ∀ h ∈ x.hops, validHop h = true ∧ 50 ≤ h.exp ∧ h.exp ≤ 148
theorem PartDrawn.good {t : Topo} (T : TopoOk t) {x : Part} (h : PartDrawn t x) : PartGood x := by
  have hl := h.len
  obtain ⟨kd, s, kind, k, h1, h2, h3, rfl⟩ := h.how
  obtain ⟨e1, e2⟩ := mkPart_kind s kind k
  refine ⟨by rw [e1]; exact h2, by rw [e2]; exact h1.ts, ?_, hl, fun y hy => ?_⟩
  · unfold mkPart; split
    · exact h1.resB _ (Nat.le_refl _)
    · exact h1.resB _ (by omega)
  · obtain ⟨i, hi, rfl⟩ := List.getElem_of_mem hy
    have hi' := hi
    rw [mkPart_len] at hi'
    have := part_hop (s := s) (kind := kind) (k := k) hi'
    rw [hopAt_at hi] at this
    rw [this]
    exact ⟨h1.valid T _, h1.exps _ (List.getElem_mem _)⟩
end
section
open Go.ChangeShapes Go.WideShapes Go.ChangeAt Go.RowKit Go.Deep
theorem joinAt_of {t : Topo} {x : Part} {k : Nat} (h1 : k < x.hops.length) (h2 : k + 1 < x.hops.length) :
  joinAt t x k = ((partEg x k != 0) && ((remEnd t x.hops[k].asn (partEg x k)).1 == x.hops[k + 1].asn) && ((remEnd t x.hops[k].asn (partEg x k)).2 == partIn x ((k : Int) + 1))) := by
 unfold joinAt; rw [hopAt_at h1, hopAt_at h2]; push_cast; rfl
theorem validPart_1 {t : Topo} {x : Part} (h : inR x.kind 1 4 = false) : validPart t x = false := by unfold validPart; rw [h]; rfl
theorem validPart_2 {t : Topo} {x : Part} (h : hopsOk t x.hops = false) : validPart t x = false := by unfold validPart; rw [h]; simp
theorem validPart_3 {t : Topo} {x : Part} (h : inR x.ts 0 1000000 = false) : validPart t x = false := by unfold validPart; rw [h]; simp
theorem validPart_4 {t : Topo} {x : Part} (h : isRes x.beta = false) : validPart t x = false := by unfold validPart; rw [h]; simp
theorem validPart_5 {t : Topo} {x : Part} {k : Nat} (hk : k < x.hops.length - 1) (h : joinAt t x k = false) : validPart t x = false := by unfold validPart; rw [allTo_no hk h]; simp
theorem validPart_len {t : Topo} {x : Part} (h : validPart t x = true) : 1 ≤ x.hops.length ∧ x.hops.length ≤ 8 := by
 unfold validPart hopsOk at h
 simp only [Bool.and_eq_true] at h
 have := inR_true.1 h.1.1.1.2.1
 omega
end
section
open Go.ChangeShapes Go.WideShapes Go.ChangeAt Go.RowKit Go.Deep
theorem followAt_of {l : List Part} {j k : Nat} (hj : k = j + 1) (hjl : j < l.length) (h : k < l.length) (h1 : l[j].hops.length - 1 < l[j].hops.length) (h2 : 0 < l[k].hops.length) :
  followAt l j = (decide (rank l[j].kind < rank l[k].kind) && (l[j].hops[l[j].hops.length - 1].asn == l[k].hops[0].asn)) := by
 subst hj
 unfold followAt
 rw [partAt_at hjl, partAt_at h, hopAt_at h1, hopAt_at h2]
theorem wf_no {t : Topo} {p : Pth} {k : Nat} (hk : k < p.parts.length) (h : partOk t p.parts k = false) : wfPath t p = false := by unfold wfPath; rw [allTo_no hk h]; simp
theorem partOk_valid {t : Topo} {l : List Part} {k : Nat} (h : allTo (partOk t l) k = true) {j : Nat} (hj : j < k) (hl : j < l.length) : validPart t l[j] = true := by
 have := allTo_true.1 h j hj
 unfold partOk at this
 rw [partAt_at hl] at this
 simp only [Bool.and_eq_true] at this
 exact this.1
theorem hop0_ext {w w' : World} {b off : Nat} {v0 v1 v2 v3 v4 : Value} (x : Ext w w') (h : w.cell? ⟨b, off, none⟩ = some v0 ∧ w.cell? ⟨b, off + 1, none⟩ = some v1 ∧ w.cell? ⟨b, off + 2, none⟩ = some v2 ∧ w.cell? ⟨b, off + 3, none⟩ = some v3 ∧ w.cell? ⟨b, off + 4, none⟩ = some v4) :
  w'.cell? ⟨b, off, none⟩ = some v0 ∧ w'.cell? ⟨b, off + 1, none⟩ = some v1 ∧ w'.cell? ⟨b, off + 2, none⟩ = some v2 ∧ w'.cell? ⟨b, off + 3, none⟩ = some v3 ∧ w'.cell? ⟨b, off + 4, none⟩ = some v4 :=
 ⟨x.cell h.1, x.cell h.2.1, x.cell h.2.2.1, x.cell h.2.2.2.1, x.cell h.2.2.2.2⟩
end
section
open Go.ChangeShapes Go.WideShapes Go.ChangeAt Go.RowKit Go.Deep
theorem simple_no {t : Topo} {p : Pth} {k : Nat} (hk : k < (usedIfs (pathSteps p.parts)).length) (h : freshAt (usedIfs (pathSteps p.parts)) k = false) : simple t p = false := by unfold simple; rw [allTo_no hk h]; simp
end
end Go.Proofs.YtikbeiafobnblaaGreat
