/- What these laws need: FnLeases, FnParts: Parts as they are drawn: of segments whose hops are sealed; they verify, in both directions. Wherever a packet goes, it passes no interface twice and takes no more steps than its path has hops. A packet set out on a path that every AS permits: it comes to the end, or a hop does not verify or is not in time. Every AS that a packet passes has a hop field for it in time, and permits the step. -/
import Derived.Test.YtikbeiafobnblaaKQ22
import Derived.Test.YtikbeiafobnblaaKQ23
namespace Go.Proofs.Ytikbeiafobnblaa
section
open Go.RowKit
def mkPart (s : Seg) (kind : Int) (k : Nat) : Part := if isRev kind then ⟨kind, s.ts, betaAt s s.hops.length, (s.hops.drop k).reverse⟩ else ⟨kind, s.ts, betaAt s k, s.hops.drop k⟩
def makePart (s : Seg) (kind k : Int) : Part := if inR k 0 ((s.hops.length : Int) - 1) && inR kind 1 4 then mkPart s kind k.toNat else ⟨0, 0, 0, []⟩
theorem mkPart_len (s : Seg) (kind : Int) (k : Nat) : (mkPart s kind k).hops.length = s.hops.length - k := by unfold mkPart; split <;> simp
theorem makePart_len (s : Seg) (kind k : Int) : (makePart s kind k).hops.length ≤ s.hops.length := by
  unfold makePart; split
  · rw [mkPart_len]; omega
  · simp
structure PartDrawn (t : Topo) (x : Part) : Prop where
  how : ∃ (kd : Int) (s : Seg) (kind : Int) (k : Nat), SegDrawn t kd s ∧ (1 ≤ kind ∧ kind ≤ 4) ∧ k < s.hops.length ∧ x = mkPart s kind k
structure PthDrawn (t : Topo) (p : Pth) : Prop where
  len : p.parts.length ≤ 3
  part : ∀ x ∈ p.parts, PartDrawn t x
theorem makePart_drawn {t : Topo} {kd : Int} {s : Seg} (h : SegDrawn t kd s) {kind : Int} (hk : 1 ≤ kind ∧ kind ≤ 4) {k : Nat} (hl : k < s.hops.length) : PartDrawn t (makePart s kind k) :=
  ⟨⟨kd, s, kind, k, h, hk, hl, by unfold makePart; rw [if_pos (by simp only [Bool.and_eq_true, inR_true]; omega), Int.toNat_natCast]⟩⟩
theorem PartDrawn.len {t : Topo} {x : Part} (h : PartDrawn t x) : 1 ≤ x.hops.length ∧ x.hops.length ≤ 5 := by
  obtain ⟨kd, s, kind, k, h1, h2, h3, rfl⟩ := h.how
  have := h1.len
  rw [mkPart_len]; omega
theorem hopsN_all {m : Nat} : ∀ {l : List Part}, (∀ x ∈ l, x.hops.length ≤ m) → hopsN l ≤ m * l.length
  | [], _ => by simp [hopsN]
  | x :: l, h => by
    have h1 := hopsN_all (l := l) (fun y hy => h y (by simp [hy]))
    have h2 := h x (by simp)
    have h3 : hopsN (x :: l) = x.hops.length + hopsN l := by simp [hopsN, Part.size]
    rw [h3, List.length_cons, Nat.mul_succ]; omega
theorem PthDrawn.size {t : Topo} {p : Pth} (h : PthDrawn t p) : p.size ≤ 18 := by
  have h1 := hopsN_all (l := p.parts) (m := 5) (fun x hx => (h.part x hx).len.2)
  have := h.len
  unfold Pth.size; omega
theorem PthDrawn.nil (t : Topo) : PthDrawn t ⟨[]⟩ := ⟨by simp, fun x hx => by cases hx⟩
theorem PthDrawn.snoc {t : Topo} {l : List Part} (h : PthDrawn t ⟨l⟩) (hl : l.length ≤ 2) {x : Part} (hx : PartDrawn t x) : PthDrawn t ⟨l ++ [x]⟩ :=
  ⟨by simp; omega, fun y hy => by
    rcases List.mem_append.1 hy with h1 | h1
    · exact h.part y h1
    · obtain rfl := List.mem_singleton.1 h1; exact hx⟩
theorem SegDrawn.valid {t : Topo} (T : TopoOk t) {kd : Int} {s : Seg} (h : SegDrawn t kd s) {i : Nat} (hi : i < s.hops.length) : validHop s.hops[i] = true := by
  have := h.ver T i hi
  unfold verHop at this
  simp only [Bool.and_eq_true] at this
  exact this.1.1
theorem valid_mac {h : Hop} (hv : validHop h = true) : isRes h.mac = true := by unfold validHop at hv; simp only [Bool.and_eq_true] at hv; exact hv.2
theorem SegDrawn.resB {t : Topo} {kd : Int} {s : Seg} (h : SegDrawn t kd s) (i : Nat) (hi : i ≤ s.hops.length) : isRes (betaAt s i) = true := by
  rw [betaAt_nat hi]; exact chainAdd_res _ _ (isRes_of h.beta.1 h.beta.2)
theorem betaAt_succ {s : Seg} {i : Nat} (hi : i < s.hops.length) : betaAt s (i + 1 : Nat) = addMod (betaAt s i) s.hops[i].mac := by
  have h := chainAdd_snoc (b := s.beta) (l := s.hops.map (·.mac)) (k := i) (by simpa using hi)
  rw [betaAt_nat (by omega), betaAt_nat (by omega), List.map_take, List.map_take, h]
  simp
theorem part_beta {t : Topo} (T : TopoOk t) {kd : Int} {s : Seg} (h : SegDrawn t kd s) {kind : Int} {k : Nat} (hk : k ≤ s.hops.length) : ∀ (i : Nat), i ≤ s.hops.length - k →
    betaTo (mkPart s kind k) i = if isRev kind then betaAt s (s.hops.length - i : Nat) else betaAt s (k + i : Nat)
  | 0, _ => by
    cases hr : isRev kind
    · unfold mkPart; rw [hr]; simp [betaTo]
    · unfold mkPart; rw [hr]; simp [betaTo]
  | i + 1, hi => by
    have ih := part_beta T h (kind := kind) hk i (by omega)
    rw [betaTo_succ (by rw [mkPart_len]; omega), ih]
    cases hr : isRev kind
    · have e1 : (mkPart s kind k).kind = kind := by unfold mkPart; rw [hr]; rfl
      rw [e1, hr]
      simp only [Bool.false_eq_true, if_false]
      have e2 : ((mkPart s kind k).hops[i]'(by rw [mkPart_len]; omega)) = s.hops[k + i]'(by omega) := by
        simp only [mkPart, hr, Bool.false_eq_true, if_false, List.getElem_drop]
      rw [e2, ← Nat.add_assoc, betaAt_succ (by omega)]
    · have e1 : (mkPart s kind k).kind = kind := by unfold mkPart; rw [hr]; rfl
      rw [e1, hr]
      simp only [if_true]
      have e2 : ((mkPart s kind k).hops[i]'(by rw [mkPart_len]; omega)) = s.hops[s.hops.length - 1 - i]'(by omega) := by
        simp only [mkPart, hr, if_true, List.getElem_reverse, List.getElem_drop, List.length_drop]
        congr 1; omega
      have e3 : s.hops.length - i = (s.hops.length - (i + 1)) + 1 := by omega
      have e4 : s.hops.length - 1 - i = s.hops.length - (i + 1) := by omega
      rw [e2, e3, betaAt_succ (by omega)]
      have e5 : s.hops[s.hops.length - 1 - i]'(by omega) = s.hops[s.hops.length - (i + 1)]'(by omega) := by congr 1
      rw [e5]
      exact sub_add (h.resB _ (by omega)) (valid_mac (h.valid T (by omega)))
theorem mkPart_kind (s : Seg) (kind : Int) (k : Nat) : (mkPart s kind k).kind = kind ∧ (mkPart s kind k).ts = s.ts := by unfold mkPart; split <;> exact ⟨rfl, rfl⟩
/-- The hop of the segment that a part's hop is. -/
def partHop (s : Seg) (kind : Int) (k i : Nat) : Nat := if isRev kind then s.hops.length - 1 - i else k + i
theorem partHop_lt {s : Seg} {kind : Int} {k i : Nat} (hi : i < s.hops.length - k) : partHop s kind k i < s.hops.length := by unfold partHop; split <;> omega
theorem part_hop {s : Seg} {kind : Int} {k i : Nat} (hi : i < s.hops.length - k) : hopAt (mkPart s kind k).hops i = s.hops[partHop s kind k i]'(partHop_lt hi) := by
  rw [hopAt_at (by rw [mkPart_len]; exact hi)]
  cases hr : isRev kind
  · have : partHop s kind k i = k + i := by unfold partHop; rw [hr]; rfl
    simp only [mkPart, hr, Bool.false_eq_true, if_false, List.getElem_drop, this]
  · have : partHop s kind k i = s.hops.length - 1 - i := by unfold partHop; rw [hr]; rfl
    simp only [mkPart, hr, if_true, List.getElem_reverse, List.getElem_drop, List.length_drop, this]
    congr 1; omega
theorem part_for {t : Topo} (T : TopoOk t) {kd : Int} {s : Seg} (h : SegDrawn t kd s) {kind : Int} {k i : Nat} (hi : i < s.hops.length - k) : betaFor (mkPart s kind k) i = betaAt s (partHop s kind k i) := by
  unfold betaFor
  rw [(mkPart_kind s kind k).1, betaAfter_to (by rw [mkPart_len]; omega), betaAfter_to (by rw [mkPart_len]; omega), part_beta T h (by omega) _ (by omega), part_beta T h (by omega) _ (by omega)]
  unfold partHop
  split
  · congr 1; omega
  · rfl
theorem mkPart_ver {t : Topo} (T : TopoOk t) {kd : Int} {s : Seg} (h : SegDrawn t kd s) {kind : Int} {k : Nat} : verPart t (mkPart s kind k) = true := by
  unfold verPart
  rw [allTo_true]
  intro i hi
  rw [mkPart_len] at hi
  rw [part_for T h hi, part_hop hi, (mkPart_kind s kind k).2]
  exact h.ver T _ (partHop_lt hi)
theorem PartDrawn.ver {t : Topo} (T : TopoOk t) {x : Part} (h : PartDrawn t x) : verPart t x = true := by
  obtain ⟨kd, s, kind, k, h1, _, _, rfl⟩ := h.how
  exact mkPart_ver T h1
theorem PthDrawn.ver {t : Topo} (T : TopoOk t) {p : Pth} (h : PthDrawn t p) : verPath t p = true := by
  unfold verPath
  rw [allTo_true]
  intro i hi
  rw [partAt_at hi]
  exact (h.part _ (List.getElem_mem _)).ver T
theorem Grown.exp {t : Topo} {kind ts beta : Int} {r inn : Int} {hs : List Hop} (h : Grown t kind ts beta r inn hs) : ∀ x ∈ hs, ts + 50 ≤ x.exp ∧ x.exp ≤ ts + 99 := by
  induction h with
  | start => intro x hx; cases hx
  | step r inn out e hs _ _ _ _ h1 h2 ih =>
    intro x hx
    rcases List.mem_append.1 hx with h | h
    · exact ih x h
    · obtain rfl := List.mem_singleton.1 h
      exact ⟨h1, h2⟩
theorem SegDrawn.exps {t : Topo} {kd : Int} {s : Seg} (h : SegDrawn t kd s) : ∀ x ∈ s.hops, 50 ≤ x.exp ∧ x.exp ≤ 148 := by
  have h0 := h.ts
  rcases h.how with ⟨r, inn, g⟩ | h1 | ⟨r, inn, e, hs, g, _, he1, he2, h1⟩
  · intro x hx; have := g.exp x hx; omega
  · rw [h1]; intro x hx; cases hx
  · rw [h1]; intro x hx
    rcases List.mem_append.1 hx with h | h
    · have := g.exp x h; omega
    · obtain rfl := List.mem_singleton.1 h
      show 50 ≤ e ∧ e ≤ 148
      omega
structure PartGood (x : Part) : Prop where
  kind : 1 ≤ x.kind ∧ x.kind ≤ 4
  ts : 0 ≤ x.ts ∧ x.ts ≤ 49
  beta : isRes x.beta = true
  len : 1 ≤ x.hops.length ∧ x.hops.length ≤ 5
  hops : ∀ h ∈ x.hops, validHop h = true ∧ 50 ≤ h.exp ∧ h.exp ≤ 148
theorem PartDrawn.good {t : Topo} (T : TopoOk t) {x : Part} (h : PartDrawn t x) : PartGood x := by
  have hl := h.len
  obtain ⟨kd, s, kind, k, h1, h2, h3, rfl⟩ := h.how
  obtain ⟨e1, e2⟩ := mkPart_kind s kind k
  refine ⟨by rw [e1]; exact h2, by rw [e2]; exact h1.ts, ?_, hl, fun y hy => ?_⟩
  · unfold mkPart; split
    · exact h1.resB _ (Nat.le_refl _)
    · exact h1.resB _ (by omega)
  · obtain ⟨i, hi, rfl⟩ := List.getElem_of_mem hy
    have hi' := hi
    rw [mkPart_len] at hi'
    have := part_hop (s := s) (kind := kind) (k := k) hi'
    rw [hopAt_at hi] at this
    rw [this]
    exact ⟨h1.valid T _, h1.exps _ (List.getElem_mem _)⟩
theorem PartGood.enc {x : Part} (h : PartGood x) : encPart x = true := by
  unfold encPart hopsEnc
  simp only [Bool.and_eq_true, inR_true, decide_eq_true_eq, List.all_eq_true]
  exact ⟨⟨⟨h.kind, by have := h.ts; omega⟩, h.beta⟩, by have := h.len; omega, fun y hy => (h.hops y hy).1⟩
theorem PthDrawn.enc {t : Topo} (T : TopoOk t) {p : Pth} (h : PthDrawn t p) : encPath p = true := by
  unfold encPath
  simp only [Bool.and_eq_true, decide_eq_true_eq, List.all_eq_true]
  exact ⟨h.len, fun x hx => ((h.part x hx).good T).enc⟩
end
section
open Go.RowKit
/-- A packet's place in its path. -/
def placed (x : Pkt) (j i : Nat) : Pkt := { x with pi := (j : Int), hi := (i : Int) }
theorem placed_self {x : Pkt} (h : hasHop x = true) : placed x x.pi.toNat x.hi.toNat = x := by
  obtain ⟨h1, _, h2, _⟩ := hasHop_iff.1 h
  obtain ⟨a0, a1, a2, a3, p, i, a4, a5, a6, a7⟩ := x
  simp only at h1 h2
  show (⟨a0, a1, a2, a3, ((p.toNat : Nat) : Int), ((i.toNat : Nat) : Int), a4, a5, a6, a7⟩ : Pkt) = _
  rw [Int.toNat_of_nonneg h1, Int.toNat_of_nonneg h2]
theorem placed_has {x : Pkt} {j i : Nat} (hj : j < x.path.parts.length) (hi : i < (partAt x.path.parts j).hops.length) : hasHop (placed x j i) = true :=
  hasHop_iff.2 ⟨Int.natCast_nonneg _, by simpa [placed] using hj, Int.natCast_nonneg _, by simpa [placed, curPart] using hi⟩
theorem walk_head {t : Topo} : ∀ (n : Nat) (x : Pkt), GoodP t x.path.parts → hasHop x = true → x.path.parts.length ≤ n + x.pi.toNat → ∃ (a e : Int) (l : List Step), ∀ inn, walkAt x inn = ⟨a, inn, e⟩ :: l
  | 0, x, _, h, hn => by have := (hasHop_iff.1 h).2.1; omega
  | n + 1, x, G, h, hn => by
    by_cases hl : lastOf x = true
    · by_cases he : x.path.parts.length ≤ x.pi.toNat + 1
      · exact ⟨_, _, _, fun inn => walk_end inn h hl he⟩
      · have hp := part_pos 0 G h hl (by omega)
        have h0 := (hasHop_iff.1 h).1
        obtain ⟨a, e, l, hw⟩ := walk_head n { x with pi := x.pi + 1, hi := 0, beta := 0 } G hp.1 (by show x.path.parts.length ≤ n + (x.pi + 1).toNat; omega)
        exact ⟨a, e, l, fun inn => by rw [walk_part inn 0 h hl (by omega)]; exact hw inn⟩
    · exact ⟨_, _, _, fun inn => walk_hop inn h hl⟩
theorem chain_of {t : Topo} {ps : List Part} (G : GoodP t ps) : ∀ (n j : Nat) (h : Hop) (hs : List Hop), j + 1 + n = ps.length → (partAt ps j).hops = h :: hs → chain (lastHop h hs) (ps.drop (j + 1))
  | 0, j, h, hs, hn, _ => by rw [List.drop_of_length_le (by omega)]; trivial
  | n + 1, j, h, hs, hn, hh => by
    have hlt : j + 1 < ps.length := by omega
    rw [List.drop_eq_getElem_cons hlt]
    have h1 := G.ne (j + 1) hlt
    have h2 := G.fol j hlt
    have e1 : partAt ps (j + 1) = ps[j + 1] := partAt_at hlt
    cases hc : (partAt ps (j + 1)).hops with
    | nil => rw [hc] at h1; simp at h1
    | cons h0 hs0 =>
      refine ⟨h0, hs0, by rw [← e1]; exact hc, ?_, chain_of G n (j + 1) h0 hs0 (by omega) hc⟩
      rw [hc, hh] at h2
      have h3 : hopAt (h :: hs) ((h :: hs).length - 1) = lastHop h hs := by
        unfold lastHop
        rw [hopAt_at (by simp), List.getLast_eq_getElem]
      rw [h3] at h2
      exact h2.symm
theorem steps_at {t : Topo} {x : Pkt} (G : GoodP t x.path.parts) (hp : 0 < x.path.parts.length) : pathSteps x.path.parts = walkAt (placed x 0 0) 0 := by
  have h0 := G.ne 0 hp
  unfold walkAt restP restH curPart placed
  simp only [Int.toNat_natCast, List.drop_zero]
  cases hc : (partAt x.path.parts 0).hops with
  | nil => rw [hc] at h0; simp at h0
  | cons h hs =>
    have h1 := chain_of G (x.path.parts.length - 1) 0 h hs (by omega) hc
    have h2 : x.path.parts = partAt x.path.parts 0 :: x.path.parts.drop 1 := by
      rw [partAt_at hp]
      exact (List.drop_eq_getElem_cons hp) ▸ (List.drop_zero).symm
    have h3 := steps_walk (partAt x.path.parts 0) (x.path.parts.drop 1) h hs hc h1
    rw [← h2] at h3
    exact h3
/-- The steps from a place on end the path's steps. -/
theorem walk_tail {t : Topo} {x : Pkt} (G : GoodP t x.path.parts) : ∀ (j : Nat), j < x.path.parts.length → ∀ (i : Nat), i < (partAt x.path.parts j).hops.length → ∃ (Y : List Step) (il : Int), pathSteps x.path.parts = Y ++ walkAt (placed x j i) il
  | 0, hj, 0, hi => ⟨[], 0, by rw [steps_at G hj]; rfl⟩
  | j + 1, hj, 0, hi => by
    have h0 := G.ne j (by omega)
    obtain ⟨Y, il, e⟩ := walk_tail G j (by omega) ((partAt x.path.parts j).hops.length - 1) (by omega)
    have hh : hasHop (placed x j ((partAt x.path.parts j).hops.length - 1)) = true := placed_has (by omega) (by omega)
    refine ⟨Y, il, ?_⟩
    rw [e, walk_part il x.beta hh ((lastOf_iff hh).2 ?_) ?_]
    · unfold placed; simp
    · simp [placed, curPart]; omega
    · simp [placed]; omega
  | j, hj, i + 1, hi => by
    obtain ⟨Y, il, e⟩ := walk_tail G j hj i (by omega)
    have hh : hasHop (placed x j i) = true := placed_has hj (by omega)
    have hl : ¬ lastOf (placed x j i) = true := fun hc => by
      have := (lastOf_iff hh).1 hc
      simp [placed, curPart] at this
      omega
    have hw := walk_hop il hh hl
    rw [e, hw]
    refine ⟨Y ++ [⟨(curHop (placed x j i)).asn, il, hopEg (curPart (placed x j i)).kind (curHop (placed x j i))⟩], hopIn (curPart (placed x j i)).kind (hopAt (curPart (placed x j i)).hops ((placed x j i).hi.toNat + 1)), ?_⟩
    rw [List.append_assoc]
    simp [placed]
theorem usedIfs_app (a b : List Step) : usedIfs (a ++ b) = usedIfs a ++ usedIfs b := by simp [usedIfs]
theorem simple_nodup {t : Topo} {p : Pth} (h : simple t p = true) : (usedIfs (pathSteps p.parts)).Nodup := by
  unfold simple at h
  simp only [Bool.and_eq_true] at h
  have h1 := allTo_true.1 h.2
  rw [List.nodup_iff_pairwise_ne, List.pairwise_iff_getElem]
  intro i j hi hj hij e
  have h2 := h1 j hj
  rw [freshAt_at hj] at h2
  simp only [Bool.not_eq_true', hasI] at h2
  have h3 : (usedIfs (pathSteps p.parts))[j] ∈ (usedIfs (pathSteps p.parts)).take j := by
    rw [← e]
    exact List.mem_take_iff_getElem.2 ⟨i, by omega, rfl⟩
  revert h2
  simp [h3]
theorem trav_mal {t : Topo} {now : Int} {dead : List Int} {x : Pkt} (h : ¬ (validPkt x = true ∧ simple t x.path = true)) : (traverse t now dead x).steps = [] := by
  unfold traverse
  have h1 : (!(validPkt x && simple t x.path && (curAs x == x.src))) = true := by
    cases h2 : validPkt x
    · rfl
    · cases h3 : simple t x.path
      · simp
      · exact absurd ⟨h2, h3⟩ h
  have hv : forward t x.src now (failedIfs t dead x.src) 0 x = ⟨2, 0, x⟩ := by unfold forward; rw [if_pos h1]
  rw [trav_bad hv (by decide) (by decide)]
/-- What a walk takes is a part of the walk from its place on. -/
theorem no_door_twice (t : Topo) (now : Int) (dead : List Int) (x : Pkt) : (usedIfs (traverse t now dead x).steps).Nodup ∧ (traverse t now dead x).steps.length ≤ (pathSteps x.path.parts).length ∧ (traverse t now dead x).code ≠ 0 := by
  obtain ⟨T⟩ := traverse_trod t now dead x
  refine ⟨?_, ?_, T.code⟩
  all_goals by_cases hg : validPkt x = true ∧ simple t x.path = true
  · obtain ⟨hv, hs⟩ := hg
    have hh := vp_hop hv
    obtain ⟨_, hj, _, hi⟩ := hasHop_iff.1 hh
    obtain ⟨Y, il, e⟩ := walk_tail (good_of_simple hs) x.pi.toNat hj x.hi.toNat hi
    rw [placed_self hh] at e
    obtain ⟨a, b, l, hw⟩ := walk_head x.path.parts.length x (good_of_simple hs) hh (by omega)
    have hn := simple_nodup hs
    rw [e, usedIfs_app, hw il] at hn
    have hn2 := (List.nodup_append.1 hn).2.1
    have hc := T.cut
    rw [hw 0] at hc
    have hst : (traverse t now dead x).steps = T.pre := by rw [T.steps]; rfl
    have hsub : List.Sublist (usedIfs ((⟨a, 0, b⟩ : Step) :: l)) (usedIfs ((⟨a, il, b⟩ : Step) :: l)) := by
      unfold usedIfs
      rw [List.flatMap_cons, List.flatMap_cons]
      refine List.Sublist.append ?_ (List.Sublist.refl _)
      unfold stepIfs
      simp
    have hn3 := hn2.sublist hsub
    rw [hc, usedIfs_app] at hn3
    rw [hst]
    exact (List.nodup_append.1 hn3).1
  · rw [trav_mal hg]; simp [usedIfs]
  · obtain ⟨hv, hs⟩ := hg
    have hh := vp_hop hv
    obtain ⟨_, hj, _, hi⟩ := hasHop_iff.1 hh
    obtain ⟨Y, il, e⟩ := walk_tail (good_of_simple hs) x.pi.toNat hj x.hi.toNat hi
    rw [placed_self hh] at e
    obtain ⟨a, b, l, hw⟩ := walk_head x.path.parts.length x (good_of_simple hs) hh (by omega)
    have hc := T.cut
    rw [hw 0] at hc
    have hl := congrArg List.length e
    rw [hw il, List.length_append, List.length_cons] at hl
    have hst : (traverse t now dead x).steps = T.pre := by rw [T.steps]; rfl
    have h9 := congrArg List.length hc
    rw [List.length_cons, List.length_append] at h9
    rw [hst]
    omega
  · rw [trav_mal hg]; simp
end
section
open Go.RowKit
theorem walk_first {t : Topo} : ∀ (n : Nat) (x : Pkt), GoodP t x.path.parts → hasHop x = true → x.path.parts.length ≤ n + x.pi.toNat → ∃ (e : Int) (l : List Step), ∀ inn, walkAt x inn = ⟨curAs x, inn, e⟩ :: l
  | 0, x, _, h, hn => by have := (hasHop_iff.1 h).2.1; omega
  | n + 1, x, G, h, hn => by
    by_cases hl : lastOf x = true
    · by_cases he : x.path.parts.length ≤ x.pi.toNat + 1
      · exact ⟨_, _, fun inn => by rw [walk_end inn h hl he, curAs_of h]⟩
      · have hp := part_pos 0 G h hl (by omega)
        have h0 := (hasHop_iff.1 h).1
        obtain ⟨e, l, hw⟩ := walk_first n { x with pi := x.pi + 1, hi := 0, beta := 0 } G hp.1 (by show x.path.parts.length ≤ n + (x.pi + 1).toNat; omega)
        exact ⟨e, l, fun inn => by rw [walk_part inn 0 h hl (by omega), hw inn, hp.2]⟩
    · exact ⟨_, _, fun inn => by rw [walk_hop inn h hl, curAs_of h]⟩
theorem wHops_all {P : Int → Prop} {cont : Int → Int → Hop → List Step} (hc : ∀ k i h, P h.asn → ∀ s ∈ cont k i h, P s.asn) (k : Int) : ∀ (hs : List Hop) (inn : Int), (∀ h ∈ hs, P h.asn) → ∀ s ∈ wHops cont k inn hs, P s.asn
  | [], _, _, s, hs => by simp [wHops] at hs
  | [h], inn, hh, s, hs => hc k inn h (hh h (by simp)) s hs
  | h :: h' :: l, inn, hh, s, hs => by
    simp only [wHops] at hs
    rcases List.mem_cons.1 hs with rfl | hs
    · exact hh h (by simp)
    · exact wHops_all hc k (h' :: l) _ (fun y hy => hh y (by simp at hy ⊢; exact .inr hy)) s hs
theorem wParts_all {P : Int → Prop} (z : Int → Hop → Int) : ∀ (ps : List Part), (∀ p ∈ ps, ∀ h ∈ p.hops, P h.asn) → ∀ k i h, P h.asn → ∀ s ∈ wParts z ps k i h, P s.asn
  | [], _, k, i, h, hh, s, hs => by
    simp only [wParts, List.mem_singleton] at hs
    rw [hs]; exact hh
  | p :: ps, hp, k, i, h, _, s, hs => by
    unfold wParts at hs
    exact wHops_all (wParts_all z ps (fun q hq => hp q (by simp [hq]))) p.kind p.hops i (hp p (by simp)) s hs
theorem enc_part {p : Pth} (h : encPath p = true) : p.parts.length ≤ 3 ∧ ∀ x ∈ p.parts, encPart x = true := by
  unfold encPath at h
  simp only [Bool.and_eq_true, decide_eq_true_eq, List.all_eq_true] at h
  exact h
theorem enc_hop {x : Part} (h : encPart x = true) : isRes x.beta = true ∧ ∀ y ∈ x.hops, validHop y = true := by
  unfold encPart hopsEnc at h
  simp only [Bool.and_eq_true, decide_eq_true_eq, List.all_eq_true] at h
  exact ⟨h.1.2, h.2.2⟩
theorem failed_none (t : Topo) (r : Int) : failedIfs t [] r = 0 := by
  unfold failedIfs
  generalize topoIfs t.links r = l
  have : ∀ (l : List Int) (s : Int), l.foldl (failStep t [] r) s = s := by
    intro l
    induction l with
    | nil => intro s; rfl
    | cons a l ih => intro s; rw [List.foldl_cons, ih]; simp [failStep, hasI]
  exact this l 0
theorem inSet_zero (e : Int) : inSet 0 e = false := by
  unfold inSet bitAt
  have h : (((0 : Int) / 2 ^ e.toNat) % 2 == 1) = false := by simp
  rw [h]; simp
/-- A packet at the begin of a path. -/
structure Out (t : Topo) (p : Pth) (x : Pkt) : Prop where
  path : x.path = p
  vp : validPkt x = true
  at_ : curAs x = x.src
  beta : betaOk x
  want : wantIn x = 0
  walk : walkAt x 0 = pathSteps p.parts
  dst : ∀ s, (pathSteps p.parts).getLast? = some s → s.asn = x.dst
  has : hasHop x = true
theorem start_ok {t : Topo} {p : Pth} (hs : simple t p = true) (he : encPath p = true) {kind rid seq : Int} {pay : List Int} (h1 : 1 ≤ kind ∧ kind ≤ 3) (h2 : 0 ≤ rid ∧ rid ≤ 100000) (h3 : 0 ≤ seq ∧ seq ≤ 100000) (h4 : pay.length ≤ 40) :
    Out t p (newPkt kind p rid seq pay) := by
  have G := good_of_simple hs
  have hw : wfPath t p = true := by unfold simple at hs; simp only [Bool.and_eq_true] at hs; exact hs.1
  have hlen : 0 < p.parts.length := by unfold wfPath at hw; simp only [Bool.and_eq_true] at hw; have := (inR_true.1 hw.1).1; omega
  obtain ⟨e1, e2⟩ := enc_part he
  have hne := G.ne 0 hlen
  have hh : hasHop (newPkt kind p rid seq pay) = true := hasHop_iff.2 ⟨Int.le_refl _, hlen, Int.le_refl _, hne⟩
  have hwalk : walkAt (newPkt kind p rid seq pay) 0 = pathSteps p.parts := (steps_at (x := newPkt kind p rid seq pay) G hlen).symm
  obtain ⟨eg, l, hf⟩ := walk_first p.parts.length (newPkt kind p rid seq pay) G hh (Nat.le_add_right _ _)
  have hps : pathSteps p.parts = ⟨curAs (newPkt kind p rid seq pay), 0, eg⟩ :: l := by rw [← hwalk]; exact hf 0
  have hpos : 0 < (pathSteps p.parts).length := by rw [hps]; simp
  have hends : ends p.parts = ((pathSteps p.parts)[0].asn, (pathSteps p.parts)[(pathSteps p.parts).length - 1].asn) := endsOf_at hpos
  have hall : ∀ s ∈ pathSteps p.parts, 0 ≤ s.asn ∧ s.asn ≤ 7 := by
    rw [← hwalk]
    unfold walkAt
    have hv : ∀ x ∈ p.parts, ∀ y ∈ x.hops, 0 ≤ y.asn ∧ y.asn ≤ 7 := fun x hx y hy => vh_asn ((enc_hop (e2 x hx)).2 y hy)
    refine wHops_all (P := fun a => 0 ≤ a ∧ a ≤ 7) (wParts_all (P := fun a => 0 ≤ a ∧ a ≤ 7) _ (restP (newPkt kind p rid seq pay)) (fun q hq y hy => hv q (List.mem_of_mem_drop hq) y hy)) _ _ _ (fun y hy => ?_)
    have hm : y ∈ (curPart (newPkt kind p rid seq pay)).hops := List.mem_of_mem_drop hy
    have : curPart (newPkt kind p rid seq pay) = p.parts[0] := partAt_at hlen
    rw [this] at hm
    exact hv _ (List.getElem_mem _) y hm
  have hsrc : (newPkt kind p rid seq pay).src = curAs (newPkt kind p rid seq pay) := by
    show (ends p.parts).1 = _
    rw [hends]
    simp only [hps, List.getElem_cons_zero]
  have hb0 : beta0 p.parts = p.parts[0].beta := beta0_at hlen
  refine ⟨rfl, ?_, hsrc.symm, ?_, by unfold wantIn newPkt; simp, hwalk, fun s hl => ?_, hh⟩
  · unfold validPkt
    have c1 : (newPkt kind p rid seq pay).path.parts.all (fun y => decide (0 < y.hops.length)) = true := by
      rw [List.all_eq_true]
      intro y hy
      obtain ⟨j, hj, rfl⟩ := List.getElem_of_mem hy
      have hj' : j < p.parts.length := hj
      have := G.ne j hj'
      rw [partAt_at hj'] at this
      exact decide_eq_true this
    have c2 : isRes (newPkt kind p rid seq pay).beta = true := by show isRes (beta0 p.parts) = true; rw [hb0]; exact (enc_hop (e2 _ (List.getElem_mem _))).1
    have c3 : 0 ≤ (newPkt kind p rid seq pay).src ∧ (newPkt kind p rid seq pay).src ≤ 7 := by
      show 0 ≤ (ends p.parts).1 ∧ (ends p.parts).1 ≤ 7
      rw [hends]; exact hall _ (List.getElem_mem _)
    have c4 : 0 ≤ (newPkt kind p rid seq pay).dst ∧ (newPkt kind p rid seq pay).dst ≤ 7 := by
      show 0 ≤ (ends p.parts).2 ∧ (ends p.parts).2 ≤ 7
      rw [hends]; exact hall _ (List.getElem_mem _)
    simp only [Bool.and_eq_true, decide_eq_true_eq]
    exact ⟨⟨⟨⟨⟨⟨⟨⟨⟨inR_true.2 h1, he⟩, hh⟩, c2⟩, c1⟩, inR_true.2 c3⟩, inR_true.2 c4⟩, inR_true.2 h2⟩, inR_true.2 h3⟩, h4⟩
  · unfold betaOk
    show beta0 p.parts = betaTo (curPart (newPkt kind p rid seq pay)) 0
    rw [hb0]
    have : curPart (newPkt kind p rid seq pay) = p.parts[0] := partAt_at hlen
    rw [this]; rfl
  · show s.asn = (ends p.parts).2
    rw [hends]
    rw [getLast_at hpos] at hl
    cases hl
    rfl
def allowed (t : Topo) (p : Pth) : Prop := ∀ s ∈ pathSteps p.parts, stepOk t s = true
theorem out_res {t : Topo} {p : Pth} {now : Int} {x : Pkt} (h : Out t p x) (hs : simple t p = true) (ha : allowed t p) :
    ((traverse t now [] x).code = 1 ∧ (traverse t now [] x).steps = pathSteps p.parts ∧ (traverse t now [] x).pkt.path = p) ∨
      ((traverse t now [] x).code = 4 ∧ ∃ j i, validAt p.parts j i ∧ verAt t p.parts j i = false) ∨ ((traverse t now [] x).code = 5 ∧ ∃ j i, validAt p.parts j i ∧ timeAt now p.parts j i = false) := by
  have hp := h.path
  subst hp
  have := trav_res t now [] (fun r eg => by rw [failed_none]; exact inSet_zero eg) 30 x.src 0 x [] h.vp hs h.beta h.at_ h.want.symm (by rw [h.walk]; exact ha) (by rw [h.walk]; exact h.dst) (walk_short 0 hs)
  rw [h.walk, List.nil_append] at this
  exact this
theorem usable_of {t : Topo} {p : Pth} {now : Int} (h : usable t p now = true) : simple t p = true ∧ (∀ j i, validAt p.parts j i → verAt t p.parts j i = true) ∧ (∀ j i, validAt p.parts j i → timeAt now p.parts j i = true) := by
  unfold usable verPath at h
  simp only [Bool.and_eq_true] at h
  obtain ⟨⟨h1, h2⟩, h3⟩ := h
  rw [allTo_true] at h2 h3
  refine ⟨h1, fun j i hv => ?_, fun j i hv => ?_⟩
  · have := h2 j hv.1
    unfold verPart at this
    exact allTo_true.1 this i hv.2
  · have := h3 j hv.1
    unfold partIn' hopsIn at this
    simp only [Bool.and_eq_true, List.all_eq_true] at this
    unfold timeAt
    rw [hopAt_at hv.2]
    simp only [Bool.and_eq_true]
    exact ⟨this.1, this.2 _ (List.getElem_mem _)⟩
theorem usable_mk {t : Topo} {p : Pth} {now : Int} (h1 : simple t p = true) (h2 : verPath t p = true) (h3 : ∀ j i, validAt p.parts j i → timeAt now p.parts j i = true) : usable t p now = true := by
  have G := good_of_simple h1
  unfold usable
  rw [h1, h2]
  simp only [Bool.and_true, Bool.true_and]
  rw [allTo_true]
  intro j hj
  unfold partIn' hopsIn
  simp only [Bool.and_eq_true, List.all_eq_true]
  have h0 := h3 j 0 ⟨hj, G.ne j hj⟩
  unfold timeAt at h0
  simp only [Bool.and_eq_true] at h0
  refine ⟨h0.1, fun y hy => ?_⟩
  obtain ⟨i, hi, rfl⟩ := List.getElem_of_mem hy
  have h4 := h3 j i ⟨hj, hi⟩
  unfold timeAt at h4
  simp only [Bool.and_eq_true] at h4
  rw [hopAt_at hi] at h4
  exact h4.2
/-- A usable path that every AS permits is walked to its end, in exactly its steps. -/
theorem walks {t : Topo} {p : Pth} {now : Int} {x : Pkt} (h : Out t p x) (hu : usable t p now = true) (ha : allowed t p) :
    (traverse t now [] x).code = 1 ∧ (traverse t now [] x).steps = pathSteps p.parts ∧ (traverse t now [] x).pkt.path = p := by
  obtain ⟨h1, h2, h3⟩ := usable_of hu
  rcases out_res (now := now) h h1 ha with r | ⟨_, j, i, hv, r⟩ | ⟨_, j, i, hv, r⟩
  · exact r
  · rw [h2 j i hv] at r; cases r
  · rw [h3 j i hv] at r; cases r
end
section
open Go.RowKit
theorem linkFrom_none {r d : Int} : ∀ {l : List Lnk} {k : Nat}, (∀ x ∈ l, usesIf x r d = false) → linkFrom r d k l = -1
  | [], _, _ => rfl
  | y :: l, k, h => by
    unfold linkFrom
    rw [h y (by simp)]
    exact linkFrom_none (fun x hx => h x (by simp [hx]))
theorem linkIdx_none {l : List Lnk} {r d : Int} (h : ∀ x ∈ l, usesIf x r d = false) : linkIdx l r d = -1 := by unfold linkIdx; exact linkFrom_none h
/-- Two links of a right topology that share an interface are one. -/
theorem ends_one : ∀ {l : List Lnk} {x y : Lnk}, (allEnds l).Nodup → x ∈ l → y ∈ l → ∀ {q : Int × Int}, q ∈ lnkEnds x → q ∈ lnkEnds y → x = y
  | [], _, _, _, hx, _, _, _, _ => by cases hx
  | z :: l, x, y, hn, hx, hy, q, hqx, hqy => by
    have hn' : (lnkEnds z ++ allEnds l).Nodup := hn
    obtain ⟨_, h2, h3⟩ := List.nodup_append.1 hn'
    have hin : ∀ {u : Lnk}, u ∈ l → q ∈ lnkEnds u → q ∈ allEnds l := fun hu hq => List.mem_flatMap.2 ⟨_, hu, hq⟩
    rcases List.mem_cons.1 hx with ex | hx1
    · rcases List.mem_cons.1 hy with ey | hy1
      · rw [ex, ey]
      · exact absurd rfl (h3 q (by rw [← ex]; exact hqx) q (hin hy1 hqy))
    · rcases List.mem_cons.1 hy with ey | hy1
      · exact absurd rfl (h3 q (by rw [← ey]; exact hqy) q (hin hx1 hqx))
      · exact ends_one h2 hx1 hy1 hqx hqy
/-- What the link at an interface is, and its far end. -/
theorem at_link {t : Topo} (T : TopoOk t) {r d : Int} (h : ∃ x ∈ t.links, usesIf x r d = true) :
    ∃ x ∈ t.links, usesIf x r d = true ∧ remEnd t r d = (if (x.a == r) && (x.ai == d) then (x.b, x.bi) else (x.a, x.ai)) ∧ d ≠ 0 ∧
      ifKind t r d = (if x.kind == 1 then 1 else if x.kind == 3 then 4 else if x.kind == 2 then (if (x.a == r) && (x.ai == d) then 2 else 3) else 0) := by
  obtain ⟨j, x, h1, h2, h3⟩ := linkIdx_hit h
  have hm : x ∈ t.links := List.mem_of_getElem? h2
  obtain ⟨_, _, _, h4, h5⟩ := lnkOk_of (T.ok x hm)
  have hd : d ≠ 0 := by
    rcases usesIf_iff.1 h3 with ⟨_, e⟩ | ⟨_, e⟩ <;> omega
  refine ⟨x, hm, h3, ?_, hd, ?_⟩
  · unfold remEnd
    rw [if_neg (by omega), h1, Int.toNat_natCast, h2]
  · unfold ifKind
    rw [if_neg (by simpa using hd), if_neg (by omega), h1, Int.toNat_natCast, h2]
theorem at_none {t : Topo} {r d : Int} (h : ¬ ∃ x ∈ t.links, usesIf x r d = true) : remEnd t r d = (-1, 0) ∧ (d ≠ 0 → ifKind t r d = 0) := by
  have h1 : linkIdx t.links r d = -1 := linkIdx_none (fun x hx => by
    cases hu : usesIf x r d
    · rfl
    · exact absurd ⟨x, hx, hu⟩ h)
  refine ⟨by unfold remEnd; rw [if_pos (by omega)], fun hd => ?_⟩
  unfold ifKind
  rw [if_neg (by simpa using hd), if_pos (by omega)]
theorem uses_ends {x : Lnk} {r d : Int} : usesIf x r d = true ↔ (r, d) ∈ lnkEnds x := by
  rw [usesIf_iff]
  simp only [lnkEnds, List.mem_cons, List.not_mem_nil, or_false, Prod.mk.injEq]
  constructor
  · rintro (⟨a, b⟩ | ⟨a, b⟩)
    · exact .inl ⟨a.symm, b.symm⟩
    · exact .inr ⟨a.symm, b.symm⟩
  · rintro (⟨a, b⟩ | ⟨a, b⟩)
    · exact .inl ⟨a.symm, b.symm⟩
    · exact .inr ⟨a.symm, b.symm⟩
/-- A packet that came over a permitted link may end where it came. -/
theorem end_ok {t : Topo} (T : TopoOk t) {s' s : Step} (h : stepOk t s' = true) (he : remEnd t s'.asn s'.eg = (s.asn, s.ing)) (h0 : s.eg = 0) : stepOk t s = true := by
  obtain ⟨r, inn, eg⟩ := s
  simp only at he h0 ⊢
  subst h0
  by_cases hi : inn = 0
  · subst hi
    unfold stepOk
    simp [ifKind, transitOk]
  · have hu : ∃ x ∈ t.links, usesIf x s'.asn s'.eg = true := by
      apply Classical.byContradiction
      intro hn
      rw [(at_none hn).1] at he
      cases he
      exact hi rfl
    obtain ⟨x, hx, hux, hre, hd, hk⟩ := at_link T hu
    have hxo := lnkOk_of (T.ok x hx)
    have hin : (r, inn) ∈ lnkEnds x := by
      rw [he] at hre
      unfold lnkEnds
      split at hre
      · cases hre; simp
      · cases hre; simp
    obtain ⟨y, hy, huy, _, _, hky⟩ := at_link T (r := r) (d := inn) ⟨x, hx, uses_ends.2 hin⟩
    obtain rfl := ends_one T.ends hx hy hin (uses_ends.1 huy)
    unfold stepOk at h ⊢
    simp only [Bool.and_eq_true] at h
    have h1 := h.1
    rw [hk] at h1
    have hkk : ifKind t r inn = 1 ∨ ifKind t r inn = 2 ∨ ifKind t r inn = 3 := by
      rw [hky]
      by_cases k1 : x.kind = 1
      · simp [k1]
      · by_cases k2 : x.kind = 2
        · simp only [k2]
          right
          simp only [show ((2 : Int) == 1) = false by decide, show ((2 : Int) == 3) = false by decide, show ((2 : Int) == 2) = true by decide, Bool.false_eq_true, if_false, if_true]
          split
          · exact .inl rfl
          · exact .inr rfl
        · exfalso
          have e1 : (x.kind == 1) = false := by simpa using k1
          have e2 : (x.kind == 2) = false := by simpa using k2
          rw [e1, e2] at h1
          revert h1
          by_cases k3 : x.kind = 3
          · simp only [k3]
            unfold transitOk
            simp only [show ((3 : Int) == 3) = true by decide, Bool.false_eq_true, if_false, if_true, show ((4 : Int) == 1) = false by decide, show ((4 : Int) == 2) = false by decide, show ((4 : Int) == 3) = false by decide, show ((4 : Int) == 5) = false by decide, Bool.or_self]
            split
            · simp
            · split
              · simp
              · split <;> simp
          · have e3 : (x.kind == 3) = false := by simpa using k3
            rw [e3]
            unfold transitOk
            simp only [Bool.false_eq_true, if_false, show ((0 : Int) == 1) = false by decide, show ((0 : Int) == 2) = false by decide, show ((0 : Int) == 3) = false by decide, show ((0 : Int) == 5) = false by decide, Bool.or_self]
            split
            · simp
            · split
              · simp
              · split <;> simp
    have he0 : ifKind t r 0 = 5 := by simp [ifKind]
    rw [he0]
    have hne : (inn != 0) = true := by simpa using hi
    simp only [hne, Bool.true_or, Bool.and_true]
    rcases hkk with e | e | e <;> rw [e] <;> decide
theorem author (t : Topo) (T : TopoOk t) (now : Int) (dead : List Int) (x : Pkt) : ∀ s ∈ (traverse t now dead x).steps, doorOk now x.path.parts s ∧ stepOk t s = true := by
  obtain ⟨W⟩ := traverse_trod t now dead x
  intro s hs
  have hst : (traverse t now dead x).steps = W.pre := by rw [W.steps]; rfl
  rw [hst] at hs
  refine ⟨W.door s hs, ?_⟩
  rcases W.okS s hs with h | ⟨h0, h⟩
  · exact h
  · rcases h with ⟨_, h2⟩ | ⟨s', h1, h2⟩
    · obtain ⟨r, inn, eg⟩ := s
      simp only at h0 h2
      subst h0
      subst h2
      unfold stepOk
      simp [ifKind, transitOk]
    · exact end_ok T h1 h2 h0
end
end Go.Proofs.Ytikbeiafobnblaa
