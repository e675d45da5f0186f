/- What these laws need: FnFlips, FnReplies: Wherever a packet goes, it passes no interface twice and takes no more steps than its path has hops. A packet set out on a path that every AS permits: it comes to the end, or a hop does not verify or is not in time. Every AS that a packet passes has a hop field for it in time, and permits the step. Paths turned around: twice is once none; what is usable stays so; the steps come back to front. -/
import Derived.Test.YtikbeiafobnblaaGreatKR19
import Derived.Test.YtikbeiafobnblaaGreatKR32
namespace Go.Proofs.YtikbeiafobnblaaGreat
section
open Go.RowKit
theorem simple_nodup {t : Topo} {p : Pth} (h : simple t p = true) : (usedIfs (pathSteps p.parts)).Nodup := by
  unfold simple at h
  simp only [Bool.and_eq_true] at h
  have h1 := allTo_true.1 h.2
  rw [List.nodup_iff_pairwise_ne, List.pairwise_iff_getElem]
  intro i j hi hj hij e
  have h2 := h1 j hj
  rw [freshAt_at hj] at h2
  simp only [Bool.not_eq_true', hasI] at h2
  have h3 : (usedIfs (pathSteps p.parts))[j] ∈ (usedIfs (pathSteps p.parts)).take j := by
    rw [← e]
    exact List.mem_take_iff_getElem.2 ⟨i, by omega, rfl⟩
  revert h2
  simp [h3]
end
section
open Go.RowKit
/-- A packet at the begin of a path. -/
structure Out (t : Topo) (p : Pth) (x : Pkt) : Prop where
  path : x.path = p
  vp : validPkt x = true
  at_ : curAs x = x.src
  beta : betaOk x
  want : wantIn x = 0
  walk : walkAt x 0 = pathSteps p.parts
  dst : ∀ s, (pathSteps p.parts).getLast? = some s → s.asn = x.dst
  has : hasHop x = true
theorem usable_of {t : Topo} {p : Pth} {now : Int} (h : usable t p now = true) : simple t p = true ∧ (∀ j i, validAt p.parts j i → verAt t p.parts j i = true) ∧ (∀ j i, validAt p.parts j i → timeAt now p.parts j i = true) := by
  unfold usable verPath at h
  simp only [Bool.and_eq_true] at h
  obtain ⟨⟨h1, h2⟩, h3⟩ := h
  rw [allTo_true] at h2 h3
  refine ⟨h1, fun j i hv => ?_, fun j i hv => ?_⟩
  · have := h2 j hv.1
    unfold verPart at this
    exact allTo_true.1 this i hv.2
  · have := h3 j hv.1
    unfold partIn' hopsIn at this
    simp only [Bool.and_eq_true, List.all_eq_true] at this
    unfold timeAt
    rw [hopAt_at hv.2]
    simp only [Bool.and_eq_true]
    exact ⟨this.1, this.2 _ (List.getElem_mem _)⟩
end
section
open Go.RowKit
theorem linkFrom_none {r d : Int} : ∀ {l : List Lnk} {k : Nat}, (∀ x ∈ l, usesIf x r d = false) → linkFrom r d k l = -1
  | [], _, _ => rfl
  | y :: l, k, h => by
    unfold linkFrom
    rw [h y (by simp)]
    exact linkFrom_none (fun x hx => h x (by simp [hx]))
theorem linkIdx_none {l : List Lnk} {r d : Int} (h : ∀ x ∈ l, usesIf x r d = false) : linkIdx l r d = -1 := by unfold linkIdx; exact linkFrom_none h
/-- Two links of a right topology that share an interface are one. -/
theorem ends_one : ∀ {l : List Lnk} {x y : Lnk}, (allEnds l).Nodup → x ∈ l → y ∈ l → ∀ {q : Int × Int}, q ∈ lnkEnds x → q ∈ lnkEnds y → x = y
  | [], _, _, _, hx, _, _, _, _ => by cases hx
  | z :: l, x, y, hn, hx, hy, q, hqx, hqy => by
    have hn' : (lnkEnds z ++ allEnds l).Nodup := hn
    obtain ⟨_, h2, h3⟩ := List.nodup_append.1 hn'
    have hin : ∀ {u : Lnk}, u ∈ l → q ∈ lnkEnds u → q ∈ allEnds l := fun hu hq => List.mem_flatMap.2 ⟨_, hu, hq⟩
    rcases List.mem_cons.1 hx with ex | hx1
    · rcases List.mem_cons.1 hy with ey | hy1
      · rw [ex, ey]
      · exact absurd rfl (h3 q (by rw [← ex]; exact hqx) q (hin hy1 hqy))
    · rcases List.mem_cons.1 hy with ey | hy1
      · exact absurd rfl (h3 q (by rw [← ey]; exact hqy) q (hin hx1 hqx))
      · exact ends_one h2 hx1 hy1 hqx hqy
/-- What the link at an interface is, and its far end. -/
theorem at_link {t : Topo} (T : TopoOk t) {r d : Int} (h : ∃ x ∈ t.links, usesIf x r d = true) :
    ∃ x ∈ t.links, usesIf x r d = true ∧ remEnd t r d = (if (x.a == r) && (x.ai == d) then (x.b, x.bi) else (x.a, x.ai)) ∧ d ≠ 0 ∧
      ifKind t r d = (if x.kind == 1 then 1 else if x.kind == 3 then 4 else if x.kind == 2 then (if (x.a == r) && (x.ai == d) then 2 else 3) else 0) := by
  obtain ⟨j, x, h1, h2, h3⟩ := linkIdx_hit h
  have hm : x ∈ t.links := List.mem_of_getElem? h2
  obtain ⟨_, _, _, h4, h5⟩ := lnkOk_of (T.ok x hm)
  have hd : d ≠ 0 := by
    rcases usesIf_iff.1 h3 with ⟨_, e⟩ | ⟨_, e⟩ <;> omega
  refine ⟨x, hm, h3, ?_, hd, ?_⟩
  · unfold remEnd
    rw [if_neg (by omega), h1, Int.toNat_natCast, h2]
  · unfold ifKind
    rw [if_neg (by simpa using hd), if_neg (by omega), h1, Int.toNat_natCast, h2]
theorem at_none {t : Topo} {r d : Int} (h : ¬ ∃ x ∈ t.links, usesIf x r d = true) : remEnd t r d = (-1, 0) ∧ (d ≠ 0 → ifKind t r d = 0) := by
  have h1 : linkIdx t.links r d = -1 := linkIdx_none (fun x hx => by
    cases hu : usesIf x r d
    · rfl
    · exact absurd ⟨x, hx, hu⟩ h)
  refine ⟨by unfold remEnd; rw [if_pos (by omega)], fun hd => ?_⟩
  unfold ifKind
  rw [if_neg (by simpa using hd), if_pos (by omega)]
theorem uses_ends {x : Lnk} {r d : Int} : usesIf x r d = true ↔ (r, d) ∈ lnkEnds x := by
  rw [usesIf_iff]
  simp only [lnkEnds, List.mem_cons, List.not_mem_nil, or_false, Prod.mk.injEq]
  constructor
  · rintro (⟨a, b⟩ | ⟨a, b⟩)
    · exact .inl ⟨a.symm, b.symm⟩
    · exact .inr ⟨a.symm, b.symm⟩
  · rintro (⟨a, b⟩ | ⟨a, b⟩)
    · exact .inl ⟨a.symm, b.symm⟩
    · exact .inr ⟨a.symm, b.symm⟩
end
section
open Go.RowKit
def raw (x : Part) : List Step := x.hops.map (stepOf x.kind)
/-- Two rows of steps joined at one AS. -/
def jn : List Step → List Step → List Step
  | [], B => B
  | [a], [] => [a]
  | [a], b :: B => ⟨a.asn, a.ing, b.eg⟩ :: B
  | a :: a' :: A, B => a :: jn (a' :: A) B
theorem jn_mid : ∀ (X : List Step) (s b : Step) (Y : List Step), jn (X ++ [s]) (b :: Y) = X ++ ⟨s.asn, s.ing, b.eg⟩ :: Y
  | [], s, b, Y => rfl
  | [x], s, b, Y => rfl
  | x :: x' :: X, s, b, Y => by
    show x :: jn (x' :: X ++ [s]) (b :: Y) = _
    rw [jn_mid (x' :: X) s b Y]; rfl
theorem snoc_of {α : Type} {l : List α} (h : l ≠ []) : ∃ X s, l = X ++ [s] := ⟨l.dropLast, l.getLast h, (List.dropLast_concat_getLast h).symm⟩
theorem cons_of {α : Type} {l : List α} (h : l ≠ []) : ∃ b Y, l = b :: Y := by
  cases l with
  | nil => exact absurd rfl h
  | cons b Y => exact ⟨b, Y, rfl⟩
theorem jn_ne {A B : List Step} (hA : A ≠ []) (hB : B ≠ []) : jn A B ≠ [] := by
  obtain ⟨X, s, rfl⟩ := snoc_of hA
  obtain ⟨b, Y, rfl⟩ := cons_of hB
  rw [jn_mid]; simp
theorem jn_assoc {A B C : List Step} (hA : A ≠ []) (hB : B ≠ []) (hC : C ≠ []) : jn (jn A B) C = jn A (jn B C) := by
  obtain ⟨X, s, rfl⟩ := snoc_of hA
  obtain ⟨c, Z, rfl⟩ := cons_of hC
  obtain ⟨b, Y, rfl⟩ := cons_of hB
  rw [jn_mid]
  by_cases hY : Y = []
  · subst hY
    rw [jn_mid X ⟨s.asn, s.ing, b.eg⟩ c Z]
    have h2 := jn_mid [] b c Z
    simp only [List.nil_append] at h2
    rw [h2, jn_mid]
  · obtain ⟨M, m, rfl⟩ := snoc_of hY
    have h1 : X ++ ⟨s.asn, s.ing, b.eg⟩ :: (M ++ [m]) = (X ++ ⟨s.asn, s.ing, b.eg⟩ :: M) ++ [m] := by simp
    have h2 : b :: (M ++ [m]) = (b :: M) ++ [m] := rfl
    rw [h1, jn_mid, h2, jn_mid]
    show _ = jn (X ++ [s]) (b :: (M ++ _))
    rw [jn_mid]; simp
theorem rev_app (A B : List Step) : revSteps (A ++ B) = revSteps B ++ revSteps A := by simp [revSteps]
theorem rev_cons (a : Step) (B : List Step) : revSteps (a :: B) = revSteps B ++ [revStep a] := by simp [revSteps]
theorem rev_ne {A : List Step} (h : A ≠ []) : revSteps A ≠ [] := by
  intro e
  have := congrArg List.length e
  simp [revSteps] at this
  exact h this
theorem jn_rev {A B : List Step} (hA : A ≠ []) (hB : B ≠ []) (h : A.getLast?.map (·.asn) = B.head?.map (·.asn)) : revSteps (jn A B) = jn (revSteps B) (revSteps A) := by
  obtain ⟨X, s, rfl⟩ := snoc_of hA
  obtain ⟨b, Y, rfl⟩ := cons_of hB
  have h1 : s.asn = b.asn := by simpa using h
  rw [jn_mid, rev_app, rev_cons, rev_cons, rev_app]
  have e : revSteps [s] ++ revSteps X = revStep s :: revSteps X := by simp [revSteps]
  rw [e, jn_mid, List.append_assoc]
  simp [revStep, h1]
theorem endsEg_snoc (X : List Step) (z : Step) : endsEg (X ++ [z]) = X ++ [⟨z.asn, z.ing, 0⟩] := by
  unfold endsEg
  rw [dif_pos (by simp)]
  simp
theorem ends_rev (l : List Step) : revSteps (endsEg (endsIn l)) = endsEg (endsIn (revSteps l)) := by
  by_cases h : l = []
  · subst h; simp [endsIn, endsEg, revSteps]
  · obtain ⟨b, Y, rfl⟩ := cons_of h
    rw [endsIn_cons]
    by_cases hY : Y = []
    · subst hY
      simp [endsIn, endsEg, revSteps, revStep]
    · obtain ⟨M, m, rfl⟩ := snoc_of hY
      have e1 : (⟨b.asn, 0, b.eg⟩ : Step) :: (M ++ [m]) = (⟨b.asn, 0, b.eg⟩ :: M) ++ [m] := rfl
      have e2 : b :: (M ++ [m]) = (b :: M) ++ [m] := rfl
      have e3 : revSteps [m] = [revStep m] := by simp [revSteps]
      have e4 : revSteps [(⟨m.asn, m.ing, 0⟩ : Step)] = [revStep ⟨m.asn, m.ing, 0⟩] := by simp [revSteps]
      rw [e1, endsEg_snoc, e2, rev_app, rev_app, e3, e4, rev_cons, rev_cons, List.singleton_append, List.singleton_append, endsIn_cons]
      have e5 : (⟨(revStep m).asn, 0, (revStep m).eg⟩ : Step) :: (revSteps M ++ [revStep b]) = (⟨(revStep m).asn, 0, (revStep m).eg⟩ :: revSteps M) ++ [revStep b] := rfl
      rw [e5, endsEg_snoc]
      simp [revStep]
/-- The parts hang together. -/
structure Hung (ps : List Part) : Prop where
  ne : ∀ p ∈ ps, p.hops ≠ []
  fol : ∀ (j : Nat) (h : j + 1 < ps.length), (ps[j].hops.getLast?).map (·.asn) = (ps[j + 1].hops.head?).map (·.asn)
theorem raw_ne {p : Part} (h : p.hops ≠ []) : raw p ≠ [] := by unfold raw; simpa using h
theorem join_raw {out : List Step} {p : Part} (ho : out ≠ []) (hp : p.hops ≠ []) (h : out.getLast?.map (·.asn) = p.hops.head?.map (·.asn)) : hopsTo true p.kind out p.hops p.hops.length = jn out (raw p) := by
  obtain ⟨X, s, rfl⟩ := snoc_of ho
  unfold raw
  cases hc : p.hops with
  | nil => exact absurd hc hp
  | cons a hs =>
    rw [hc] at h
    have h1 : s.asn = a.asn := by simpa using h
    have := hopsTo_join p.kind X s a hs h1 hs.length (Nat.le_refl _)
    rw [List.length_cons, this, List.take_length, List.map_cons, jn_mid]
    simp [stepOf, h1]
theorem first_raw (p : Part) : hopsTo false p.kind [] p.hops p.hops.length = raw p := by
  rw [hopsTo_first p.kind p.hops _ (Nat.le_refl _), List.take_length]; rfl
theorem raw_last (p : Part) : (raw p).getLast?.map (·.asn) = p.hops.getLast?.map (·.asn) := by
  unfold raw; rw [List.getLast?_map, Option.map_map]; rfl
theorem raw_head (p : Part) : (raw p).head?.map (·.asn) = p.hops.head?.map (·.asn) := by
  unfold raw; rw [List.head?_map, Option.map_map]; rfl
theorem jn_last {A B : List Step} (hA : A ≠ []) (hB : B ≠ []) (h : A.getLast?.map (·.asn) = B.head?.map (·.asn)) : (jn A B).getLast?.map (·.asn) = B.getLast?.map (·.asn) := by
  obtain ⟨X, s, rfl⟩ := snoc_of hA
  obtain ⟨b, Y, rfl⟩ := cons_of hB
  have h1 : s.asn = b.asn := by simpa using h
  rw [jn_mid, List.getLast?_append]
  cases Y with
  | nil => simp [h1]
  | cons y Y => simp [List.getLast?_cons]
def joined : List Part → List Step
  | [] => []
  | [p] => raw p
  | [p, q] => jn (raw p) (raw q)
  | p :: q :: r :: _ => jn (jn (raw p) (raw q)) (raw r)
theorem steps_joined {ps : List Part} (H : Hung ps) (h1 : 1 ≤ ps.length) (h3 : ps.length ≤ 3) : pathSteps ps = endsEg (endsIn (joined ps)) := by
  unfold pathSteps
  congr 2
  match ps, h1, h3, H with
  | [p], _, _, H =>
    show partsTo [p] 1 = _
    rw [partsTo_succ (by simp)]
    exact first_raw p
  | [p, q], _, _, H =>
    show partsTo [p, q] 2 = _
    have np := H.ne p (by simp)
    have nq := H.ne q (by simp)
    have f0 := H.fol 0 (by simp)
    rw [partsTo_succ (by simp), partsTo_succ (by simp)]
    show hopsTo true q.kind (hopsTo false p.kind [] p.hops p.hops.length) q.hops q.hops.length = jn (raw p) (raw q)
    rw [first_raw, join_raw (raw_ne np) nq (by rw [raw_last]; exact f0)]
  | [p, q, r], _, _, H =>
    show partsTo [p, q, r] 3 = _
    have np := H.ne p (by simp)
    have nq := H.ne q (by simp)
    have nr := H.ne r (by simp)
    have f0 := H.fol 0 (by simp)
    have f1 := H.fol 1 (by simp)
    rw [partsTo_succ (by simp), partsTo_succ (by simp), partsTo_succ (by simp)]
    show hopsTo true r.kind (hopsTo true q.kind (hopsTo false p.kind [] p.hops p.hops.length) q.hops q.hops.length) r.hops r.hops.length = jn (jn (raw p) (raw q)) (raw r)
    rw [first_raw, join_raw (raw_ne np) nq (by rw [raw_last]; exact f0),
      join_raw (jn_ne (raw_ne np) (raw_ne nq)) nr (by rw [jn_last (raw_ne np) (raw_ne nq) (by rw [raw_last, raw_head]; exact f0), raw_last]; exact f1)]
theorem hopIn_rev {k : Int} (hk : 1 ≤ k ∧ k ≤ 4) (h : Hop) : hopIn (revKind k) h = hopEg k h ∧ hopEg (revKind k) h = hopIn k h := by
  have : k = 1 ∨ k = 2 ∨ k = 3 ∨ k = 4 := by omega
  rcases this with rfl | rfl | rfl | rfl <;> exact ⟨rfl, rfl⟩
theorem revKind_in {k : Int} (hk : 1 ≤ k ∧ k ≤ 4) : (1 ≤ revKind k ∧ revKind k ≤ 4) ∧ revKind (revKind k) = k ∧ isRev (revKind k) = !isRev k ∧ rank (revKind k) = 4 - rank k := by
  have : k = 1 ∨ k = 2 ∨ k = 3 ∨ k = 4 := by omega
  rcases this with rfl | rfl | rfl | rfl <;> decide
theorem raw_rev {x : Part} (hk : 1 ≤ x.kind ∧ x.kind ≤ 4) : raw (revPart x) = revSteps (raw x) := by
  unfold raw revPart revSteps
  simp only [← List.map_reverse, List.map_map]
  congr 1
  funext h
  simp [stepOf, revStep, (hopIn_rev hk h).1, (hopIn_rev hk h).2]
theorem hung_rev {ps : List Part} (H : Hung ps) (h1 : 1 ≤ ps.length) (h3 : ps.length ≤ 3) : Hung (revParts ps) := by
  refine ⟨fun p hp => ?_, fun j hj => ?_⟩
  · unfold revParts at hp
    obtain ⟨q, hq, rfl⟩ := List.mem_map.1 (List.mem_reverse.1 hp)
    show q.hops.reverse ≠ []
    simpa using H.ne q hq
  · match ps, h1, h3, H with
    | [p], _, _, H => simp [revParts] at hj
    | [p, q], _, _, H =>
      have f0 := H.fol 0 (by simp)
      have : j = 0 := by simp [revParts] at hj; omega
      subst this
      show (q.hops.reverse.getLast?).map (·.asn) = (p.hops.reverse.head?).map (·.asn)
      rw [List.getLast?_reverse, List.head?_reverse]
      exact f0.symm
    | [p, q, r], _, _, H =>
      have f0 := H.fol 0 (by simp)
      have f1 := H.fol 1 (by simp)
      have : j = 0 ∨ j = 1 := by simp [revParts] at hj; omega
      rcases this with rfl | rfl
      · show (r.hops.reverse.getLast?).map (·.asn) = (q.hops.reverse.head?).map (·.asn)
        rw [List.getLast?_reverse, List.head?_reverse]
        exact f1.symm
      · show (q.hops.reverse.getLast?).map (·.asn) = (p.hops.reverse.head?).map (·.asn)
        rw [List.getLast?_reverse, List.head?_reverse]
        exact f0.symm
theorem steps_rev {ps : List Part} (H : Hung ps) (h1 : 1 ≤ ps.length) (h3 : ps.length ≤ 3) (hk : ∀ p ∈ ps, 1 ≤ p.kind ∧ p.kind ≤ 4) : pathSteps (revParts ps) = revSteps (pathSteps ps) := by
  rw [steps_joined H h1 h3, steps_joined (hung_rev H h1 h3) (by rw [revParts_len]; exact h1) (by rw [revParts_len]; exact h3), ends_rev]
  congr 2
  match ps, h1, h3, H, hk with
  | [p], _, _, H, hk => exact raw_rev (hk p (by simp))
  | [p, q], _, _, H, hk =>
    have np := raw_ne (H.ne p (by simp))
    have nq := raw_ne (H.ne q (by simp))
    have f0 := H.fol 0 (by simp)
    show jn (raw (revPart q)) (raw (revPart p)) = revSteps (jn (raw p) (raw q))
    rw [raw_rev (hk p (by simp)), raw_rev (hk q (by simp)), jn_rev np nq (by rw [raw_last, raw_head]; exact f0)]
  | [p, q, r], _, _, H, hk =>
    have np := raw_ne (H.ne p (by simp))
    have nq := raw_ne (H.ne q (by simp))
    have nr := raw_ne (H.ne r (by simp))
    have f0 := H.fol 0 (by simp)
    have f1 := H.fol 1 (by simp)
    have g0 : (raw p).getLast?.map (·.asn) = (raw q).head?.map (·.asn) := by rw [raw_last, raw_head]; exact f0
    have g1 : (raw q).getLast?.map (·.asn) = (raw r).head?.map (·.asn) := by rw [raw_last, raw_head]; exact f1
    show jn (jn (raw (revPart r)) (raw (revPart q))) (raw (revPart p)) = revSteps (jn (jn (raw p) (raw q)) (raw r))
    rw [raw_rev (hk p (by simp)), raw_rev (hk q (by simp)), raw_rev (hk r (by simp)), jn_rev (jn_ne np nq) nr (by rw [jn_last np nq g0]; exact g1), jn_rev np nq g0]
    exact jn_assoc (rev_ne nr) (rev_ne nq) (rev_ne np)
theorem hung_of {t : Topo} {ps : List Part} (G : GoodP t ps) : Hung ps := by
  refine ⟨fun p hp => ?_, fun j hj => ?_⟩
  · obtain ⟨j, hj, rfl⟩ := List.getElem_of_mem hp
    have := G.ne j hj
    rw [partAt_at hj] at this
    exact List.length_pos_iff.1 this
  · have h1 := G.fol j hj
    have n1 := G.ne j (by omega)
    have n2 := G.ne (j + 1) hj
    rw [partAt_at (show j < ps.length by omega)] at h1 n1
    rw [partAt_at hj] at h1 n2
    rw [hopAt_at (by omega), hopAt_at n2] at h1
    rw [getLast_at n1, List.head?_eq_getElem?, List.getElem?_eq_getElem n2]
    simpa using h1
theorem endsOf_rev (l : List Step) : endsOf (revSteps l) = ((endsOf l).2, (endsOf l).1) := by
  by_cases h : l = []
  · subst h; rfl
  · have hl := List.length_pos_iff.2 h
    have hr : 0 < (revSteps l).length := by simpa [revSteps] using hl
    rw [endsOf_at hr, endsOf_at hl]
    simp [revSteps, revStep]
theorem revPart_mk {t : Topo} (T : TopoOk t) {kd : Int} {s : Seg} (h : SegDrawn t kd s) {kind : Int} (hk : 1 ≤ kind ∧ kind ≤ 4) {k : Nat} (hl : k < s.hops.length) : revPart (mkPart s kind k) = mkPart s (revKind kind) k := by
  obtain ⟨r1, r2, r3, _⟩ := revKind_in hk
  have e1 := mkPart_kind s kind k
  have hb : betaAfter (mkPart s kind k) (mkPart s kind k).hops.length = (mkPart s (revKind kind) k).beta := by
    rw [betaAfter_to (Nat.le_refl _), mkPart_len, part_beta T h (by omega) _ (Nat.le_refl _)]
    unfold mkPart
    rw [r3]
    cases hr : isRev kind
    · simp only [Bool.not_false, Bool.false_eq_true, if_false, if_true]
      congr 1; omega
    · simp only [Bool.not_true, Bool.false_eq_true, if_false, if_true]
      congr 1; omega
  unfold revPart
  rw [hb, e1.1, e1.2]
  unfold mkPart
  rw [r3]
  cases hr : isRev kind <;> simp
theorem PartDrawn.rev {t : Topo} (T : TopoOk t) {x : Part} (h : PartDrawn t x) : PartDrawn t (revPart x) ∧ revPart (revPart x) = x := by
  obtain ⟨kd, s, kind, k, h1, h2, h3, rfl⟩ := h.how
  obtain ⟨r1, r2, _⟩ := revKind_in h2
  rw [revPart_mk T h1 h2 h3]
  refine ⟨⟨⟨kd, s, _, k, h1, r1, h3, rfl⟩⟩, ?_⟩
  rw [revPart_mk T h1 r1 h3, r2]
theorem PthDrawn.rev {t : Topo} (T : TopoOk t) {p : Pth} (h : PthDrawn t p) : PthDrawn t (revPath p) ∧ revPath (revPath p) = p := by
  refine ⟨⟨by show (revParts p.parts).length ≤ 3; rw [revParts_len]; exact h.len, fun x hx => ?_⟩, ?_⟩
  · have hx' : x ∈ revParts p.parts := hx
    unfold revParts at hx'
    obtain ⟨y, hy, rfl⟩ := List.mem_map.1 (List.mem_reverse.1 hx')
    exact ((h.part y hy).rev T).1
  · obtain ⟨ps⟩ := p
    unfold revPath revParts
    simp only [List.map_reverse, List.reverse_reverse, List.map_map]
    congr 1
    have : ∀ x ∈ ps, (revPart ∘ revPart) x = id x := fun x hx => ((h.part x hx).rev T).2
    rw [List.map_congr_left this, List.map_id]
theorem rem_sym {t : Topo} (T : TopoOk t) {r d r2 d2 : Int} (h : remEnd t r d = (r2, d2)) (h0 : 0 ≤ r2) : remEnd t r2 d2 = (r, d) ∧ d2 ≠ 0 := by
  have hu : ∃ x ∈ t.links, usesIf x r d = true := by
    apply Classical.byContradiction
    intro hn
    rw [(at_none hn).1] at h
    cases h
    omega
  obtain ⟨x, hx, hux, hre, _, _⟩ := at_link T hu
  rw [h] at hre
  obtain ⟨_, _, hab, hai, hbi⟩ := lnkOk_of (T.ok x hx)
  have hin : (r2, d2) ∈ lnkEnds x := by
    unfold lnkEnds
    split at hre
    · cases hre; simp
    · cases hre; simp
  obtain ⟨y, hy, huy, hry, hd2, _⟩ := at_link T (r := r2) (d := d2) ⟨x, hx, uses_ends.2 hin⟩
  obtain rfl := ends_one T.ends hx hy hin (uses_ends.1 huy)
  refine ⟨?_, hd2⟩
  rw [hry]
  split at hre
  · rename_i hc
    simp only [Bool.and_eq_true, beq_iff_eq] at hc
    cases hre
    rw [if_neg (by simp only [Bool.and_eq_true, beq_iff_eq]; omega), hc.1, hc.2]
  · rename_i hc
    cases hre
    rw [if_pos (by simp)]
    rcases usesIf_iff.1 hux with ⟨a, b⟩ | ⟨a, b⟩
    · exact absurd (by simp [a, b]) hc
    · rw [a, b]
theorem fresh_all {t : Topo} {l : List Hop} : allTo (hopFresh t l) l.length = true ↔ (∀ h ∈ l, validHop h = true ∧ isAs t h.asn = true) ∧ (l.map (·.asn)).Nodup := by
  rw [allTo_true]
  constructor
  · intro h
    refine ⟨fun x hx => ?_, ?_⟩
    · obtain ⟨i, hi, rfl⟩ := List.getElem_of_mem hx
      have := h i hi
      unfold hopFresh at this
      simp only [Bool.and_eq_true] at this
      rw [hopAt_at hi] at this
      exact this.1
    · rw [List.nodup_iff_pairwise_ne, List.pairwise_iff_getElem]
      intro i j hi hj hij e
      have hj' : j < l.length := by simpa using hj
      have := h j hj'
      unfold hopFresh at this
      simp only [Bool.and_eq_true, Bool.not_eq_true', hasI, List.any_eq_false, beq_iff_eq] at this
      refine this.2 ((l.map (·.asn))[i]) (List.mem_take_iff_getElem.2 ⟨i, by omega, rfl⟩) ?_
      rw [e, hopAt_at hj', List.getElem_map]
  · rintro ⟨h1, h2⟩ i hi
    rw [List.nodup_iff_pairwise_ne, List.pairwise_iff_getElem] at h2
    unfold hopFresh
    simp only [Bool.and_eq_true, Bool.not_eq_true', hasI, List.any_eq_false, beq_iff_eq]
    rw [hopAt_at hi]
    refine ⟨h1 _ (List.getElem_mem _), fun y hy e => ?_⟩
    obtain ⟨j, hj, rfl⟩ := List.mem_take_iff_getElem.1 hy
    exact h2 j i (by omega) (by simpa using hi) (by omega) (by rw [e, List.getElem_map])
theorem rev_valid {t : Topo} (T : TopoOk t) {x : Part} (hv : validPart t x = true) : validPart t (revPart x) = true := by
  unfold validPart hopsOk at hv
  simp only [Bool.and_eq_true] at hv
  obtain ⟨⟨⟨⟨h1, h2, h3⟩, h4⟩, h5⟩, h6⟩ := hv
  have hk := inR_true.1 h1
  have hn := inR_true.1 h2
  obtain ⟨r1, _, _, _⟩ := revKind_in hk
  rw [fresh_all] at h3
  rw [allTo_true] at h6
  have hlen : (revPart x).hops.length = x.hops.length := by simp [revPart]
  unfold validPart hopsOk
  simp only [Bool.and_eq_true]
  refine ⟨⟨⟨⟨inR_true.2 r1, by rw [hlen]; exact h2, ?_⟩, h4⟩, ?_⟩, ?_⟩
  · rw [fresh_all]
    refine ⟨fun y hy => h3.1 y (List.mem_reverse.1 hy), ?_⟩
    show (x.hops.reverse.map (·.asn)).Nodup
    rw [List.map_reverse]
    exact (List.reverse_perm _).nodup_iff.2 h3.2
  · show isRes (betaAfter x x.hops.length) = true
    rw [betaAfter_to (Nat.le_refl _)]
    obtain ⟨m, hm⟩ : ∃ m, x.hops.length = m + 1 := ⟨x.hops.length - 1, by omega⟩
    rw [hm]
    exact betaTo_res (by omega)
  · rw [allTo_true, hlen]
    intro i hi
    have h7 := h6 (x.hops.length - 2 - i) (by omega)
    have a1 : x.hops.length - 2 - i < x.hops.length := by omega
    have a2 : x.hops.length - 2 - i + 1 < x.hops.length := by omega
    have v1 := h3.1 _ (List.getElem_mem a1)
    have v2 := h3.1 _ (List.getElem_mem a2)
    unfold joinAt at h7 ⊢
    rw [partEg_at a1, partIn_at a2, hopAt_at a1, hopAt_at a2] at h7
    have b1 : i < (revPart x).hops.length := by omega
    have b2 : i + 1 < (revPart x).hops.length := by omega
    rw [partEg_at b1, partIn_at b2, hopAt_at b1, hopAt_at b2]
    have c1 : (revPart x).hops[i] = x.hops[x.hops.length - 2 - i + 1] := by
      simp only [revPart, List.getElem_reverse]
      congr 1; omega
    have c2 : (revPart x).hops[i + 1] = x.hops[x.hops.length - 2 - i] := by
      simp only [revPart, List.getElem_reverse]
      congr 1; omega
    rw [c1, c2]
    generalize x.hops[x.hops.length - 2 - i] = p at *
    generalize x.hops[x.hops.length - 2 - i + 1] = q at *
    have ek : (revPart x).kind = revKind x.kind := rfl
    rw [ek, (hopIn_rev hk q).2, (hopIn_rev hk p).1]
    simp only [Bool.and_eq_true, beq_iff_eq, bne_iff_ne, ne_eq] at h7 ⊢
    obtain ⟨⟨d0, d1⟩, d2⟩ := h7
    have hq0 := (vh_asn v2.1).1
    obtain ⟨s1, s2⟩ := rem_sym T (r := p.asn) (d := hopEg x.kind p) (r2 := q.asn) (d2 := hopIn x.kind q) (by rw [← d1, ← d2]) hq0
    exact ⟨⟨s2, by rw [s1]⟩, by rw [s1]⟩
theorem rev_wf {t : Topo} (T : TopoOk t) {p : Pth} (h : wfPath t p = true) : wfPath t (revPath p) = true := by
  have G := good_of_wf h
  have H := hung_of G
  unfold wfPath at h ⊢
  simp only [Bool.and_eq_true] at h ⊢
  obtain ⟨hl, ha⟩ := h
  have hl' := inR_true.1 hl
  have hlr : (revPath p).parts.length = p.parts.length := revParts_len _
  rw [hlr]
  refine ⟨hl, ?_⟩
  have HR := hung_rev H (by omega) (by omega)
  obtain ⟨ps⟩ := p
  simp only at *
  have hv : ∀ j, j < ps.length → validPart t (partAt ps j) = true := fun j hj => by
    have := allTo_true.1 ha j hj; unfold partOk at this; simp only [Bool.and_eq_true] at this; exact this.1
  have hf : ∀ j, j + 1 < ps.length → rank (partAt ps j).kind < rank (partAt ps (j + 1)).kind := fun j hj => by
    have := allTo_true.1 ha (j + 1) hj
    unfold partOk followAt at this
    simp only [Bool.and_eq_true, Bool.or_eq_true, decide_eq_true_eq, Nat.add_sub_cancel] at this
    rcases this.2 with h | h
    · omega
    · exact h.1
  have hkd : ∀ j, j < ps.length → 1 ≤ (partAt ps j).kind ∧ (partAt ps j).kind ≤ 4 := fun j hj => by
    have := hv j hj; unfold validPart at this; simp only [Bool.and_eq_true] at this; exact inR_true.1 this.1.1.1.1
  have hat : ∀ j, j < ps.length → partAt (revParts ps) j = revPart (partAt ps (ps.length - 1 - j)) := fun j hj => by
    rw [partAt_at (by rw [revParts_len]; exact hj), partAt_at (by omega)]
    simp [revParts]
  rw [allTo_true]
  intro j hj
  unfold partOk
  show (validPart t (partAt (revParts ps) j) && (decide (j = 0) || followAt (revParts ps) (j - 1))) = true
  simp only [Bool.and_eq_true, Bool.or_eq_true, decide_eq_true_eq]
  refine ⟨by rw [hat j hj]; exact rev_valid T (hv _ (by omega)), ?_⟩
  by_cases h0 : j = 0
  · exact .inl h0
  · right
    obtain ⟨i, rfl⟩ : ∃ i, j = i + 1 := ⟨j - 1, by omega⟩
    have hfo := HR.fol i (by rw [revParts_len]; exact hj)
    unfold followAt
    simp only [Nat.add_sub_cancel, Bool.and_eq_true, decide_eq_true_eq, beq_iff_eq]
    have n1 : (partAt (revParts ps) i).hops ≠ [] := by
      rw [partAt_at (by rw [revParts_len]; omega)]; exact HR.ne _ (List.getElem_mem _)
    have n2 : (partAt (revParts ps) (i + 1)).hops ≠ [] := by
      rw [partAt_at (by rw [revParts_len]; omega)]; exact HR.ne _ (List.getElem_mem _)
    refine ⟨?_, ?_⟩
    · rw [hat i (by omega), hat (i + 1) hj]
      show rank (revKind (partAt ps (ps.length - 1 - i)).kind) < rank (revKind (partAt ps (ps.length - 1 - (i + 1))).kind)
      have h7 := hf (ps.length - 1 - (i + 1)) (by omega)
      rw [show ps.length - 1 - (i + 1) + 1 = ps.length - 1 - i by omega] at h7
      rw [(revKind_in (hkd _ (by omega))).2.2.2, (revKind_in (hkd _ (by omega))).2.2.2]
      omega
    · rw [← partAt_at (show i < (revParts ps).length by rw [revParts_len]; omega), ← partAt_at (show i + 1 < (revParts ps).length by rw [revParts_len]; omega)] at hfo
      have l1 := List.length_pos_iff.2 n1
      have l2 := List.length_pos_iff.2 n2
      rw [getLast_at l1, List.head?_eq_getElem?, List.getElem?_eq_getElem l2] at hfo
      rw [hopAt_at (by omega), hopAt_at l2]
      simpa using hfo
theorem used_rev (l : List Step) : (usedIfs (revSteps l)).Perm (usedIfs l) := by
  unfold usedIfs revSteps
  rw [List.map_reverse, List.flatMap_reverse]
  refine (List.reverse_perm _).trans ?_
  induction l with
  | nil => exact List.Perm.refl _
  | cons s l ih =>
    simp only [List.map_cons, List.flatMap_cons, Function.comp]
    refine List.Perm.append ?_ ih
    refine (List.reverse_perm _).trans ?_
    unfold stepIfs revStep
    simp only
    exact List.perm_append_comm
/-- What holds of a path that is turned around. -/
theorem flips {t : Topo} (T : TopoOk t) {p : Pth} (D : PthDrawn t p) (hw : wfPath t p = true) :
    pathSteps (revPath p).parts = revSteps (pathSteps p.parts) ∧ oppEnds p (revPath p) = true ∧ (simple t p = true → simple t (revPath p) = true) := by
  have H := hung_of (good_of_wf hw)
  have hl : 1 ≤ p.parts.length ∧ p.parts.length ≤ 3 := by
    unfold wfPath at hw; simp only [Bool.and_eq_true] at hw; have := inR_true.1 hw.1; omega
  have hst : pathSteps (revPath p).parts = revSteps (pathSteps p.parts) := steps_rev H hl.1 hl.2 (fun x hx => ((D.part x hx).good T).kind)
  refine ⟨hst, ?_, fun hs => ?_⟩
  · unfold oppEnds ends
    rw [hst, endsOf_rev]
    simp
  · have hn := simple_nodup hs
    unfold simple
    rw [rev_wf T hw, Bool.true_and, allTo_true]
    rw [hst]
    have hn2 : (usedIfs (revSteps (pathSteps p.parts))).Nodup := (used_rev _).nodup_iff.2 hn
    intro i hi
    rw [freshAt_at hi]
    simp only [Bool.not_eq_true', hasI, List.any_eq_false, beq_iff_eq]
    intro y hy e
    rw [List.nodup_iff_pairwise_ne, List.pairwise_iff_getElem] at hn2
    obtain ⟨j, hj, rfl⟩ := List.mem_take_iff_getElem.1 hy
    exact hn2 j i (by omega) hi (by omega) e
theorem rev_usable {t : Topo} (T : TopoOk t) {p : Pth} (D : PthDrawn t p) {now : Int} (hu : usable t p now = true) : usable t (revPath p) now = true := by
  have hs := (usable_of hu).1
  have hw : wfPath t p = true := by unfold simple at hs; simp only [Bool.and_eq_true] at hs; exact hs.1
  have h1 := (flips T D hw).2.2 hs
  have h2 := (D.rev T).1.ver T
  unfold usable at hu ⊢
  rw [h1, h2]
  simp only [Bool.and_eq_true] at hu
  have h3 := hu.2
  rw [allTo_true] at h3
  simp only [Bool.true_and]
  rw [allTo_true]
  intro j hj
  have hj' : j < p.parts.length := by rw [← revParts_len]; exact hj
  have e : partAt (revPath p).parts j = revPart (partAt p.parts (p.parts.length - 1 - j)) := by
    rw [partAt_at hj, partAt_at (by omega)]
    simp [revPath, revParts]
  rw [e]
  have := h3 (p.parts.length - 1 - j) (by omega)
  unfold partIn' hopsIn at this ⊢
  simp only [Bool.and_eq_true, List.all_eq_true] at this ⊢
  exact ⟨this.1, fun y hy => this.2 y (List.mem_reverse.1 hy)⟩
end
end Go.Proofs.YtikbeiafobnblaaGreat
