/- What these laws need: FnLeases, FnParts: The steps of a path, once more: from a place in it on, hop by hop. What a packet's walk does on a well-formed path: its steps are the path's steps from its place on, as far as it comes. A packet's whole walk: its steps are a first part of the path's steps from its place on; it ends; each step is of an AS that had a valid hop for it. When a packet that began right is delivered: exactly if every hop on its way verifies and is in time, where every AS permits. -/
import Derived.Test.YtikbeiafobnblaaKQ9
import Derived.Test.YtikbeiafobnblaaKQ13
import Derived.Test.YtikbeiafobnblaaKQ21
namespace Go.Proofs.Ytikbeiafobnblaa
section
open Go.RowKit
/-- The steps from a hop on: hs are the part's hops from there, cont what follows the part's last hop. -/
def wHops (cont : Int → Int → Hop → List Step) (k : Int) : Int → List Hop → List Step
  | _, [] => []
  | inn, [h] => cont k inn h
  | inn, h :: h' :: hs => ⟨h.asn, inn, hopEg k h⟩ :: wHops cont k (hopIn k h') (h' :: hs)
def wParts (z : Int → Hop → Int) : List Part → Int → Int → Hop → List Step
  | [], k, inn, h => [⟨h.asn, inn, z k h⟩]
  | p :: ps, _, inn, _ => wHops (wParts z ps) p.kind inn p.hops
def rawHops (k inn : Int) : List Hop → List Step
  | [] => []
  | h :: hs => ⟨h.asn, inn, hopEg k h⟩ :: hs.map (stepOf k)
def lastHop (h : Hop) (hs : List Hop) : Hop := (h :: hs).getLast (by simp)
theorem raw_split (k : Int) : ∀ (hs : List Hop) (h : Hop) (inn : Int), ∃ (Y : List Step) (il : Int), rawHops k inn (h :: hs) = Y ++ [⟨(lastHop h hs).asn, il, hopEg k (lastHop h hs)⟩] ∧ ∀ cont, wHops cont k inn (h :: hs) = Y ++ cont k il (lastHop h hs)
  | [], h, inn => ⟨[], inn, rfl, fun _ => rfl⟩
  | h1 :: hs, h, inn => by
    obtain ⟨Y, il, e1, e2⟩ := raw_split k hs h1 (hopIn k h1)
    refine ⟨⟨h.asn, inn, hopEg k h⟩ :: Y, il, ?_, fun cont => ?_⟩
    · show (⟨h.asn, inn, hopEg k h⟩ : Step) :: rawHops k (hopIn k h1) (h1 :: hs) = _
      rw [e1]; rfl
    · show (⟨h.asn, inn, hopEg k h⟩ : Step) :: wHops cont k (hopIn k h1) (h1 :: hs) = _
      rw [e2]; rfl
theorem hopsTo_join (k : Int) (X : List Step) (s : Step) (h : Hop) (hs : List Hop) (he : s.asn = h.asn) : ∀ i ≤ hs.length, hopsTo true k (X ++ [s]) (h :: hs) (i + 1) = X ++ (⟨h.asn, s.ing, hopEg k h⟩ :: (hs.take i).map (stepOf k))
  | 0, _ => by
    rw [hopsTo_succ (by simp)]
    have hm : mergeB (true && (0 : Nat) == 0) (X ++ [s]) h = true := by simp [mergeB, he]
    show stepOne (true && (0 : Nat) == 0) k (X ++ [s]) h = _
    rw [stepOne_yes2 hm (by simp)]
    simp
  | i + 1, hi => by
    rw [hopsTo_succ (by simp; omega), hopsTo_join k X s h hs he i (by omega)]
    rw [stepOne_no (by simp [mergeB])]
    rw [List.take_succ_eq_append_getElem (by omega), List.map_append]
    simp only [List.append_assoc, List.cons_append, List.getElem_cons_succ]
    rfl
theorem hopsTo_first (k : Int) (hs : List Hop) : ∀ i ≤ hs.length, hopsTo false k [] hs i = (hs.take i).map (stepOf k)
  | 0, _ => by simp [hopsTo]
  | i + 1, hi => by
    rw [hopsTo_succ (by omega), hopsTo_first k hs i (by omega), stepOne_no (by simp [mergeB]), List.take_succ_eq_append_getElem (by omega), List.map_append]
    rfl
def partsGo (out : List Step) : List Part → List Step
  | [] => out
  | p :: ps => partsGo (hopsTo true p.kind out p.hops p.hops.length) ps
theorem partsTo_go : ∀ (ps pre : List Part), 0 < pre.length → partsTo (pre ++ ps) (pre.length + ps.length) = partsGo (partsTo (pre ++ ps) pre.length) ps
  | [], pre, _ => by simp [partsGo]
  | p :: ps, pre, hp => by
    have h1 := partsTo_go ps (pre ++ [p]) (by simp)
    have hs : partsTo (pre ++ p :: ps) (pre.length + 1) = hopsTo true p.kind (partsTo (pre ++ p :: ps) pre.length) p.hops p.hops.length := by
      rw [partsTo_succ (by simp)]
      simp [hp]
    rw [List.append_assoc, List.singleton_append, List.length_append, List.length_singleton] at h1
    rw [show pre.length + (p :: ps).length = pre.length + 1 + ps.length by simp; omega, h1, hs]
    rfl
/-- Every part has hops, and begins at the AS at which the one before ended. -/
def chain : Hop → List Part → Prop
  | _, [] => True
  | h, p :: ps => ∃ h0 hs, p.hops = h0 :: hs ∧ h0.asn = h.asn ∧ chain (lastHop h0 hs) ps
theorem go_raw : ∀ (ps : List Part) (X : List Step) (h : Hop) (k inn : Int), chain h ps → partsGo (X ++ [⟨h.asn, inn, hopEg k h⟩]) ps = X ++ wParts hopEg ps k inn h
  | [], _, _, _, _, _ => rfl
  | p :: ps, X, h, k, inn, hc => by
    obtain ⟨h0, hs, hp, ha, hc2⟩ := hc
    unfold partsGo wParts
    rw [hp]
    have e := hopsTo_join p.kind X ⟨h.asn, inn, hopEg k h⟩ h0 hs ha.symm hs.length (Nat.le_refl _)
    rw [List.length_cons, e, List.take_length]
    show partsGo (X ++ rawHops p.kind inn (h0 :: hs)) ps = _
    obtain ⟨Y, il, e1, e2⟩ := raw_split p.kind hs h0 inn
    rw [e1, e2, ← List.append_assoc, go_raw ps (X ++ Y) _ p.kind il hc2, List.append_assoc]
theorem parts_raw (p : Part) (ps : List Part) (h0 : Hop) (hs : List Hop) (hp : p.hops = h0 :: hs) (hc : chain (lastHop h0 hs) ps) : partsTo (p :: ps) (p :: ps).length = wHops (wParts hopEg ps) p.kind (hopIn p.kind h0) (h0 :: hs) := by
  have h := partsTo_go ps [p] (by simp)
  rw [List.singleton_append, List.length_singleton] at h
  rw [show (p :: ps).length = 1 + ps.length by simp; omega, h, partsTo_succ (by simp)]
  show partsGo (hopsTo false p.kind [] p.hops p.hops.length) ps = _
  rw [hopsTo_first p.kind p.hops _ (Nat.le_refl _), List.take_length, hp]
  show partsGo (rawHops p.kind (hopIn p.kind h0) (h0 :: hs)) ps = _
  obtain ⟨Y, il, e1, e2⟩ := raw_split p.kind hs h0 (hopIn p.kind h0)
  rw [e1, e2, go_raw ps Y _ p.kind il hc]
theorem endsIn_cons (s : Step) (l : List Step) : endsIn (s :: l) = ⟨s.asn, 0, s.eg⟩ :: l := by simp [endsIn]
theorem endsEg_one (s : Step) : endsEg [s] = [⟨s.asn, s.ing, 0⟩] := by simp [endsEg]
theorem endsEg_cons (s : Step) (l : List Step) (h : l ≠ []) : endsEg (s :: l) = s :: endsEg l := by
  cases l with
  | nil => exact absurd rfl h
  | cons a l => simp [endsEg]
theorem wHops_ne {cont : Int → Int → Hop → List Step} (hc : ∀ k i h, cont k i h ≠ []) {k inn : Int} {h : Hop} {hs : List Hop} : wHops cont k inn (h :: hs) ≠ [] := by
  cases hs with
  | nil => exact hc _ _ _
  | cons a l => simp [wHops]
theorem wParts_ne (z : Int → Hop → Int) : ∀ (ps : List Part) (h : Hop), chain h ps → ∀ k i h', wParts z ps k i h' ≠ []
  | [], _, _, _, _, _ => by simp [wParts]
  | p :: ps, h, hc, k, i, h' => by
    obtain ⟨h0, hs, hp, _, hc2⟩ := hc
    unfold wParts
    rw [hp]
    exact wHops_ne (wParts_ne z ps _ hc2)
theorem wHops_in {cont : Int → Int → Hop → List Step} (hc : ∀ k i h, endsIn (cont k i h) = cont k 0 h) (k inn : Int) (h : Hop) (hs : List Hop) : endsIn (wHops cont k inn (h :: hs)) = wHops cont k 0 (h :: hs) := by
  cases hs with
  | nil => exact hc _ _ _
  | cons a l => exact endsIn_cons _ _
theorem wParts_in (z : Int → Hop → Int) : ∀ (ps : List Part) (h : Hop), chain h ps → ∀ k i h', endsIn (wParts z ps k i h') = wParts z ps k 0 h'
  | [], _, _, _, _, _ => by simp [wParts, endsIn]
  | p :: ps, h, hc, k, i, h' => by
    obtain ⟨h0, hs, hp, _, hc2⟩ := hc
    unfold wParts
    rw [hp]
    exact wHops_in (wParts_in z ps _ hc2) _ _ _ _
theorem wHops_eg {c1 c2 : Int → Int → Hop → List Step} (hn : ∀ k i h, c1 k i h ≠ []) (hc : ∀ k i h, endsEg (c1 k i h) = c2 k i h) (k : Int) : ∀ (hs : List Hop) (inn : Int) (h : Hop), endsEg (wHops c1 k inn (h :: hs)) = wHops c2 k inn (h :: hs)
  | [], _, _ => hc _ _ _
  | a :: hs, inn, h => by
    show endsEg (_ :: wHops c1 k (hopIn k a) (a :: hs)) = _ :: wHops c2 k (hopIn k a) (a :: hs)
    rw [endsEg_cons _ _ (wHops_ne hn), wHops_eg hn hc k hs]
theorem wParts_eg (z : Int → Hop → Int) : ∀ (ps : List Part) (h : Hop), chain h ps → ∀ k i h', endsEg (wParts z ps k i h') = wParts (fun _ _ => 0) ps k i h'
  | [], _, _, _, _, _ => by simp [wParts, endsEg]
  | p :: ps, h, hc, k, i, h' => by
    obtain ⟨h0, hs, hp, _, hc2⟩ := hc
    unfold wParts
    rw [hp]
    exact wHops_eg (wParts_ne z ps _ hc2) (wParts_eg z ps _ hc2) _ _ _ _
/-- The steps of a path, from its first hop on. -/
theorem steps_walk (p : Part) (ps : List Part) (h0 : Hop) (hs : List Hop) (hp : p.hops = h0 :: hs) (hc : chain (lastHop h0 hs) ps) : pathSteps (p :: ps) = wHops (wParts (fun _ _ => 0) ps) p.kind 0 (h0 :: hs) := by
  unfold pathSteps
  rw [parts_raw p ps h0 hs hp hc, wHops_in (wParts_in hopEg ps _ hc), wHops_eg (wParts_ne hopEg ps _ hc) (wParts_eg hopEg ps _ hc)]
end
section
open Go.RowKit
structure GoodP (t : Topo) (ps : List Part) : Prop where
  ne : ∀ j, j < ps.length → 0 < (partAt ps j).hops.length
  fol : ∀ j, j + 1 < ps.length → (hopAt (partAt ps j).hops ((partAt ps j).hops.length - 1)).asn = (hopAt (partAt ps (j + 1)).hops 0).asn
  join : ∀ j, j < ps.length → ∀ i, i + 1 < (partAt ps j).hops.length → joinAt t (partAt ps j) i = true
  vh : ∀ j, j < ps.length → ∀ i, i < (partAt ps j).hops.length → validHop (hopAt (partAt ps j).hops i) = true
theorem good_of_wf {t : Topo} {p : Pth} (h : wfPath t p = true) : GoodP t p.parts := by
  unfold wfPath at h
  simp only [Bool.and_eq_true] at h
  have hp := allTo_true.1 h.2
  have hv : ∀ j, j < p.parts.length → validPart t (partAt p.parts j) = true := fun j hj => by
    have := hp j hj; unfold partOk at this; simp only [Bool.and_eq_true] at this; exact this.1
  have ho : ∀ j, j < p.parts.length → hopsOk t (partAt p.parts j).hops = true := fun j hj => by
    have := hv j hj; unfold validPart at this; simp only [Bool.and_eq_true] at this; exact this.1.1.1.2
  refine ⟨fun j hj => ?_, fun j hj => ?_, fun j hj i hi => ?_, fun j hj i hi => ?_⟩
  · have := ho j hj
    unfold hopsOk at this
    simp only [Bool.and_eq_true] at this
    have := (inR_true.1 this.1).1
    omega
  · have := hp (j + 1) hj
    unfold partOk at this
    simp only [Bool.and_eq_true, Nat.add_sub_cancel] at this
    have h2 := this.2
    simp only [Nat.add_eq_zero_iff, Nat.one_ne_zero, and_false, decide_false, Bool.false_or] at h2
    unfold followAt at h2
    simp only [Bool.and_eq_true, beq_iff_eq] at h2
    exact h2.2
  · have := hv j hj
    unfold validPart at this
    simp only [Bool.and_eq_true] at this
    exact allTo_true.1 this.2 i (by omega)
  · have := ho j hj
    unfold hopsOk at this
    simp only [Bool.and_eq_true] at this
    have := allTo_true.1 this.2 i hi
    unfold hopFresh at this
    simp only [Bool.and_eq_true] at this
    exact this.1.1
theorem vh_asn {h : Hop} (hv : validHop h = true) : 0 ≤ h.asn ∧ h.asn ≤ 7 := by
  unfold validHop at hv
  simp only [Bool.and_eq_true] at hv
  exact inR_true.1 hv.1.1.1.1.1
def restH (x : Pkt) : List Hop := (curPart x).hops.drop x.hi.toNat
def restP (x : Pkt) : List Part := x.path.parts.drop (x.pi.toNat + 1)
/-- The steps from a packet's place on. -/
def walkAt (x : Pkt) (inn : Int) : List Step := wHops (wParts (fun _ _ => 0) (restP x)) (curPart x).kind inn (restH x)
theorem hasHop_iff {x : Pkt} : hasHop x = true ↔ 0 ≤ x.pi ∧ x.pi.toNat < x.path.parts.length ∧ 0 ≤ x.hi ∧ x.hi.toNat < (curPart x).hops.length := by
  unfold hasHop
  simp only [Bool.and_eq_true, inR_true]
  constructor
  · rintro ⟨⟨a, b⟩, c, d⟩; refine ⟨a, by omega, c, by omega⟩
  · rintro ⟨a, b, c, d⟩; exact ⟨⟨a, by omega⟩, c, by omega⟩
theorem restH_cons {x : Pkt} (h : hasHop x = true) : restH x = curHop x :: (curPart x).hops.drop (x.hi.toNat + 1) := by
  obtain ⟨_, _, _, hh⟩ := hasHop_iff.1 h
  unfold restH curHop
  rw [List.drop_eq_getElem_cons hh, hopAt_at hh]
theorem lastOf_iff {x : Pkt} (h : hasHop x = true) : lastOf x = true ↔ x.hi.toNat + 1 = (curPart x).hops.length := by
  obtain ⟨_, _, h0, hh⟩ := hasHop_iff.1 h
  unfold lastOf
  rw [beq_iff_eq]; omega
theorem walk_end {x : Pkt} (inn : Int) (h : hasHop x = true) (hl : lastOf x = true) (he : x.path.parts.length ≤ x.pi.toNat + 1) : walkAt x inn = [⟨(curHop x).asn, inn, 0⟩] := by
  have h1 := (lastOf_iff h).1 hl
  unfold walkAt
  rw [restH_cons h, List.drop_of_length_le (by omega)]
  unfold restP
  rw [List.drop_of_length_le he]
  rfl
theorem walk_hop {x : Pkt} (inn : Int) (h : hasHop x = true) (hl : ¬ lastOf x = true) :
    walkAt x inn = ⟨(curHop x).asn, inn, hopEg (curPart x).kind (curHop x)⟩ :: walkAt { x with hi := x.hi + 1 } (hopIn (curPart x).kind (hopAt (curPart x).hops (x.hi.toNat + 1))) := by
  obtain ⟨_, _, h0, hh⟩ := hasHop_iff.1 h
  have h1 : x.hi.toNat + 1 < (curPart x).hops.length := by
    have h9 : ¬ x.hi.toNat + 1 = (curPart x).hops.length := fun e => hl ((lastOf_iff h).2 e)
    omega
  have e1 : (x.hi + 1).toNat = x.hi.toNat + 1 := by omega
  unfold walkAt
  rw [restH_cons h, List.drop_eq_getElem_cons h1]
  show _ :: wHops _ _ _ _ = _
  unfold restH restP curPart
  simp only [e1]
  have h2 : x.hi.toNat + 1 < (partAt x.path.parts x.pi.toNat).hops.length := h1
  rw [List.drop_eq_getElem_cons h2, hopAt_at h2]
  rfl
theorem walk_part {x : Pkt} (inn b : Int) (h : hasHop x = true) (hl : lastOf x = true) (he : x.pi.toNat + 1 < x.path.parts.length) : walkAt x inn = walkAt { x with pi := x.pi + 1, hi := 0, beta := b } inn := by
  obtain ⟨hp0, _, h0, hh⟩ := hasHop_iff.1 h
  have h1 := (lastOf_iff h).1 hl
  have e1 : (x.pi + 1).toNat = x.pi.toNat + 1 := by omega
  unfold walkAt
  rw [restH_cons h, List.drop_of_length_le (by omega)]
  unfold restP restH curPart
  simp only [e1]
  rw [List.drop_eq_getElem_cons he, partAt_at he]
  rfl
theorem verCur_pos (t : Topo) (x : Pkt) : (verCur t x).pi = x.pi ∧ (verCur t x).hi = x.hi ∧ (verCur t x).path = x.path ∧ (verCur t x).dst = x.dst ∧ (verCur t x).src = x.src := by
  unfold verCur; split <;> exact ⟨rfl, rfl, rfl, rfl, rfl⟩
theorem curAs_of {x : Pkt} (h : hasHop x = true) : curAs x = (curHop x).asn := by unfold curAs; rw [if_pos h]
theorem chk_hop {t : Topo} {now : Int} {x : Pkt} (h : chkCode t now x = 0) : hasHop x = true ∧ curOk t x = true ∧ curIn x now = true := by
  unfold chkCode at h
  split at h
  · rename_i h1
    split at h
    · rename_i h2
      refine ⟨?_, h1, h2⟩
      unfold curOk at h1
      simp only [Bool.and_eq_true] at h1
      exact h1.1
    · omega
  · omega
theorem asn_nn {t : Topo} {x : Pkt} (G : GoodP t x.path.parts) (h : hasHop x = true) : 0 ≤ (curHop x).asn := by
  obtain ⟨_, hp, _, hh⟩ := hasHop_iff.1 h
  exact (vh_asn (G.vh _ hp _ hh)).1
theorem atLast_iff {t : Topo} {x : Pkt} (G : GoodP t x.path.parts) (h : hasHop x = true) : atLast x = true ↔ lastOf x = true ∧ x.path.parts.length ≤ x.pi.toNat + 1 := by
  obtain ⟨h1, h2, _, _⟩ := hasHop_iff.1 h
  unfold atLast
  rw [curAs_of h]
  have := asn_nn G h
  simp only [Bool.and_eq_true, decide_eq_true_eq, beq_iff_eq]
  constructor
  · rintro ⟨⟨_, a⟩, b⟩; exact ⟨a, by omega⟩
  · rintro ⟨a, b⟩; exact ⟨⟨this, a⟩, by omega⟩
theorem adv_part {t : Topo} {x : Pkt} (G : GoodP t x.path.parts) (h : hasHop x = true) (hl : lastOf x = true) (he : ¬ atLast x = true) :
    advance x = { x with pi := x.pi + 1, hi := 0, beta := (partAt x.path.parts (x.pi.toNat + 1)).beta } ∧ x.pi.toNat + 1 < x.path.parts.length := by
  have h1 := asn_nn G h
  have h2 : ¬ (x.path.parts.length ≤ x.pi.toNat + 1) := fun e => he ((atLast_iff G h).2 ⟨hl, e⟩)
  refine ⟨?_, by omega⟩
  unfold advance
  rw [curAs_of h, if_neg (by simp only [Bool.or_eq_true, decide_eq_true_eq]; rintro (e | e); omega; exact he e), if_pos hl]
theorem adv_hop {t : Topo} {x : Pkt} (G : GoodP t x.path.parts) (h : hasHop x = true) (hl : ¬ lastOf x = true) : advance x = { x with hi := x.hi + 1 } := by
  have h1 := asn_nn G h
  unfold advance
  rw [curAs_of h, if_neg (by simp only [Bool.or_eq_true, decide_eq_true_eq]; rintro (e | e); omega; exact hl ((atLast_iff G h).1 e).1), if_neg hl]
theorem part_pos {t : Topo} {x : Pkt} (b : Int) (G : GoodP t x.path.parts) (h : hasHop x = true) (hl : lastOf x = true) (he : x.pi.toNat + 1 < x.path.parts.length) :
    hasHop { x with pi := x.pi + 1, hi := 0, beta := b } = true ∧ curAs { x with pi := x.pi + 1, hi := 0, beta := b } = curAs x := by
  obtain ⟨h0, h1, h2, h3⟩ := hasHop_iff.1 h
  have e1 : (x.pi + 1).toNat = x.pi.toNat + 1 := by omega
  have hn := G.ne _ he
  have hh : hasHop { x with pi := x.pi + 1, hi := 0, beta := b } = true := by
    rw [hasHop_iff]
    unfold curPart
    simp only [e1]
    exact ⟨by omega, he, by omega, by simpa using hn⟩
  refine ⟨hh, ?_⟩
  rw [curAs_of hh, curAs_of h]
  have hf := G.fol _ he
  have hle := (lastOf_iff h).1 hl
  unfold curHop curPart
  simp only [e1]
  unfold curPart at hle
  rw [show x.hi.toNat = (partAt x.path.parts x.pi.toNat).hops.length - 1 by omega, hf]
  rfl
theorem chk_walk {t : Topo} {now : Int} : ∀ (f : Nat) (x : Pkt), GoodP t x.path.parts → hasHop x = true → (chkAll t now f x).1 = 0 → x.path.parts.length ≤ f + x.pi.toNat + 1 →
    (chkAll t now f x).2.path = x.path ∧ (chkAll t now f x).2.dst = x.dst ∧ hasHop (chkAll t now f x).2 = true ∧ curAs (chkAll t now f x).2 = curAs x ∧ (∀ inn, walkAt (chkAll t now f x).2 inn = walkAt x inn) ∧
      (lastOf (chkAll t now f x).2 = true → atLast (chkAll t now f x).2 = true)
  | 0, x, G, hx, hc, hf => by
    obtain ⟨e1, e2, e3, e4, _⟩ := verCur_pos t x
    have hv : hasHop (verCur t x) = true := by unfold hasHop curPart; rw [e1, e2, e3]; exact hx
    refine ⟨e3, e4, hv, ?_, fun inn => ?_, fun hl => ?_⟩
    · show curAs (verCur t x) = _
      unfold curAs curHop hasHop curPart; rw [e1, e2, e3]
    · show walkAt (verCur t x) inn = _
      unfold walkAt restP restH curPart; rw [e1, e2, e3]
    · exact (atLast_iff (by rw [e3]; exact G) hv).2 ⟨hl, by rw [e3, e1]; omega⟩
  | f + 1, x, G, hx, hc, hf => by
    obtain ⟨e1, e2, e3, e4, _⟩ := verCur_pos t x
    have hv : hasHop (verCur t x) = true := by unfold hasHop curPart; rw [e1, e2, e3]; exact hx
    have hca : curAs (verCur t x) = curAs x := by unfold curAs curHop hasHop curPart; rw [e1, e2, e3]
    have hwa : ∀ inn, walkAt (verCur t x) inn = walkAt x inn := fun inn => by unfold walkAt restP restH curPart; rw [e1, e2, e3]
    have Gv : GoodP t (verCur t x).path.parts := by rw [e3]; exact G
    unfold chkAll at hc ⊢
    split at hc
    · rename_i hcond
      rw [if_pos hcond]
      simp only [Bool.and_eq_true, Bool.not_eq_true', beq_iff_eq] at hcond
      obtain ⟨⟨_, hl⟩, hna⟩ := hcond
      obtain ⟨ha, hlt⟩ := adv_part Gv hv hl (by rw [hna]; decide)
      have hp := part_pos (partAt (verCur t x).path.parts ((verCur t x).pi.toNat + 1)).beta Gv hv hl hlt
      rw [← ha] at hp
      have hpath : (advance (verCur t x)).path = x.path := by rw [ha]; exact e3
      have hdst : (advance (verCur t x)).dst = x.dst := by rw [ha]; exact e4
      have hpi : (advance (verCur t x)).pi.toNat = x.pi.toNat + 1 := by
        obtain ⟨h0, _⟩ := hasHop_iff.1 hx
        rw [ha]; show ((verCur t x).pi + 1).toNat = _; rw [e1]; omega
      obtain ⟨a1, a2, a3, a4, a5, a6⟩ := chk_walk f (advance (verCur t x)) (by rw [hpath]; exact G) hp.1 hc (by rw [hpath, hpi]; omega)
      refine ⟨a1.trans hpath, a2.trans hdst, a3, a4.trans (hp.2.trans hca), fun inn => ?_, a6⟩
      rw [a5 inn, ← hwa inn, walk_part inn _ hv hl hlt, ← ha]
    · rename_i hcond
      rw [if_neg hcond]
      refine ⟨e3, e4, hv, hca, hwa, fun hl => ?_⟩
      cases hna : atLast (verCur t x)
      · exfalso
        apply hcond
        simp only [Bool.and_eq_true, Bool.not_eq_true', beq_iff_eq]
        exact ⟨⟨hc, hl⟩, hna⟩
      · rfl
theorem chkCode_vals (t : Topo) (now : Int) (x : Pkt) : chkCode t now x = 0 ∨ chkCode t now x = 4 ∨ chkCode t now x = 5 := by
  unfold chkCode; split
  · split
    · exact .inl rfl
    · exact .inr (.inr rfl)
  · exact .inr (.inl rfl)
theorem chkAll_code (t : Topo) (now : Int) : ∀ (f : Nat) (x : Pkt), (chkAll t now f x).1 = 0 ∨ (chkAll t now f x).1 = 4 ∨ (chkAll t now f x).1 = 5
  | 0, x => chkCode_vals t now x
  | f + 1, x => by
    unfold chkAll
    split
    · exact chkAll_code t now f _
    · exact chkCode_vals t now x
theorem vp_hop {x : Pkt} (h : validPkt x = true) : hasHop x = true := by
  unfold validPkt at h
  simp only [Bool.and_eq_true] at h
  exact h.1.1.1.1.1.1.1.2
theorem good_of_simple {t : Topo} {p : Pth} (h : simple t p = true) : GoodP t p.parts := by
  unfold simple at h
  simp only [Bool.and_eq_true] at h
  exact good_of_wf h.1
theorem wantIn_hop {x : Pkt} (h : hasHop x = true) : wantIn { x with hi := x.hi + 1 } = partIn (curPart x) (x.hi + 1) := by
  obtain ⟨_, _, h0, _⟩ := hasHop_iff.1 h
  unfold wantIn
  rw [if_neg (by simp only [Bool.and_eq_true, beq_iff_eq]; omega)]
  rfl
/-- What forwarding has done if it went on, or delivered. -/
theorem fw_ok {t : Topo} {r now dead inn cd eg : Int} {x z : Pkt} (h : forward t r now dead inn x = ⟨cd, eg, z⟩) (hc : cd = 0 ∨ cd = 1) :
    validPkt x = true ∧ simple t x.path = true ∧ curAs x = r ∧ inn = wantIn x ∧ (chkAll t now x.path.parts.length x).1 = 0 ∧
      (cd = 1 → walkAt x inn = [⟨r, inn, eg⟩] ∧ x.dst = r ∧ eg = 0 ∧ z = (chkAll t now x.path.parts.length x).2 ∧ atLast (chkAll t now x.path.parts.length x).2 = true) ∧
      (cd = 0 → walkAt x inn = ⟨r, inn, eg⟩ :: walkAt z (wantIn z) ∧ remEnd t r eg = (curAs z, wantIn z) ∧ hasHop z = true ∧ z.path = x.path ∧ z.dst = x.dst ∧ stepOk t ⟨r, inn, eg⟩ = true ∧ inSet dead eg = false ∧
        z = { (chkAll t now x.path.parts.length x).2 with hi := (chkAll t now x.path.parts.length x).2.hi + 1 } ∧ eg = partEg (curPart (chkAll t now x.path.parts.length x).2) (chkAll t now x.path.parts.length x).2.hi ∧ ¬ lastOf (chkAll t now x.path.parts.length x).2 = true) := by
  unfold forward at h
  simp only at h
  split at h
  · cases h; omega
  rename_i h1
  simp only [Bool.not_eq_true', Bool.not_eq_false, Bool.and_eq_true, beq_iff_eq] at h1
  obtain ⟨⟨hv, hs⟩, hr⟩ := h1
  split at h
  · cases h; omega
  rename_i h2
  have hin : inn = wantIn x := by simpa using h2
  have G := good_of_simple hs
  have hx := vp_hop hv
  split at h
  · rename_i h3
    have h3' : ¬ (chkAll t now x.path.parts.length x).1 = 0 := by simpa using h3
    have : (chkAll t now x.path.parts.length x).1 = cd := by cases h; rfl
    have hn := chkAll_code t now x.path.parts.length x
    omega
  rename_i h3
  have hch : (chkAll t now x.path.parts.length x).1 = 0 := by simpa using h3
  obtain ⟨hy1, hy2, hy3, hy4, hy5, hy6⟩ := chk_walk x.path.parts.length x G hx hch (by omega)
  generalize hye : (chkAll t now x.path.parts.length x).2 = y at *
  have Gy : GoodP t y.path.parts := by rw [hy1]; exact G
  have hyr : (curHop y).asn = r := by rw [← curAs_of hy3, hy4, hr]
  refine ⟨hv, hs, hr, hin, hch, ?_⟩
  split at h
  · rename_i h4
    obtain ⟨hl, hf⟩ := (atLast_iff Gy hy3).1 h4
    split at h
    · rename_i h5
      cases h
      refine ⟨fun _ => ⟨?_, ?_, rfl, rfl, h4⟩, fun e => by omega⟩
      · rw [← hy5, walk_end inn hy3 hl hf, hyr]
      · rw [← hy2]; simpa using h5
    · cases h; omega
  · rename_i h4
    have hl : ¬ lastOf y = true := fun e => h4 (hy6 e)
    split at h
    · cases h; omega
    rename_i h5
    split at h
    · cases h; omega
    rename_i h6
    simp only [Vd.mk.injEq] at h
    obtain ⟨rfl, rfl, rfl⟩ := h
    refine ⟨fun e => by omega, fun _ => ?_⟩
    obtain ⟨hp0, hp1, hi0, hi1⟩ := hasHop_iff.1 hy3
    have hlt : y.hi.toNat + 1 < (curPart y).hops.length := by
      have h9 : ¬ y.hi.toNat + 1 = (curPart y).hops.length := fun e => hl ((lastOf_iff hy3).2 e)
      omega
    have e1 : (y.hi + 1).toNat = y.hi.toNat + 1 := by omega
    have hadv := adv_hop Gy hy3 hl
    have hz : hasHop { y with hi := y.hi + 1 } = true := by
      rw [hasHop_iff]
      refine ⟨hp0, hp1, by show 0 ≤ y.hi + 1; omega, ?_⟩
      show (y.hi + 1).toNat < _
      rw [e1]; exact hlt
    have heg : partEg (curPart y) y.hi = hopEg (curPart y).kind (curHop y) := by
      have := partEg_at (p := curPart y) hi1
      rw [show ((y.hi.toNat : Nat) : Int) = y.hi by omega] at this
      rw [this]; unfold curHop; rw [hopAt_at hi1]
    have hwi : wantIn { y with hi := y.hi + 1 } = hopIn (curPart y).kind (hopAt (curPart y).hops (y.hi.toNat + 1)) := by
      rw [wantIn_hop hy3]
      have := partIn_at (p := curPart y) hlt
      rw [show ((y.hi.toNat + 1 : Nat) : Int) = y.hi + 1 by omega] at this
      rw [this, hopAt_at hlt]
    have hj := Gy.join _ hp1 _ hlt
    unfold joinAt at hj
    simp only [Bool.and_eq_true, bne_iff_ne, beq_iff_eq] at hj
    obtain ⟨⟨_, hj1⟩, hj2⟩ := hj
    have hce : hopAt (partAt y.path.parts y.pi.toNat).hops y.hi.toNat = curHop y := rfl
    have hcz : curAs { y with hi := y.hi + 1 } = (hopAt (partAt y.path.parts y.pi.toNat).hops (y.hi.toNat + 1)).asn := by
      rw [curAs_of hz]; unfold curHop curPart; simp only [e1]
    rw [show ((y.hi.toNat : Nat) : Int) = y.hi by omega, hce, hyr] at hj1 hj2
    rw [hadv]
    refine ⟨?_, ?_, hz, hy1, hy2, ?_, ?_, rfl, rfl, hl⟩
    · rw [← hy5, walk_hop inn hy3 hl, hyr, ← heg, hwi]
    · refine Prod.ext ?_ ?_
      · rw [hcz]; exact hj1
      · rw [hwi]
        have h7 := partIn_at (p := curPart y) hlt
        rw [hopAt_at hlt, ← h7]
        exact hj2
    · cases hs5 : stepOk t ⟨r, inn, partEg (curPart y) y.hi⟩
      · rw [hs5] at h5; exact absurd rfl h5
      · rfl
    · cases hs6 : inSet dead (partEg (curPart y) y.hi)
      · rfl
      · rw [hs6] at h6; exact absurd rfl h6
end
section
open Go.RowKit
theorem curIn_ver' (t : Topo) (x : Pkt) (now : Int) : curIn (verCur t x) now = curIn x now := by
  obtain ⟨e1, e2, e3, _⟩ := verCur_pos t x
  unfold curIn curAs curHop hasHop curPart
  rw [e1, e2, e3]
theorem chk_in {t : Topo} {now : Int} : ∀ (f : Nat) (x : Pkt), (chkAll t now f x).1 = 0 → curIn x now = true ∧ curIn (chkAll t now f x).2 now = true
  | 0, x, h => by
    obtain ⟨_, _, h3⟩ := chk_hop (t := t) (now := now) (x := x) h
    exact ⟨h3, by show curIn (verCur t x) now = true; rw [curIn_ver']; exact h3⟩
  | f + 1, x, h => by
    unfold chkAll at h ⊢
    split at h
    · rename_i hc
      rw [if_pos hc]
      simp only [Bool.and_eq_true, beq_iff_eq] at hc
      exact ⟨(chk_hop hc.1.1).2.2, (chk_in f _ h).2⟩
    · rename_i hc
      rw [if_neg hc]
      obtain ⟨_, _, h3⟩ := chk_hop (t := t) (now := now) (x := x) h
      exact ⟨h3, by rw [curIn_ver']; exact h3⟩
theorem curIn_at {x : Pkt} {now : Int} (h : curIn x now = true) : (curPart x).ts ≤ now ∧ now ≤ (curHop x).exp := by
  unfold curIn at h
  simp only [Bool.and_eq_true, decide_eq_true_eq] at h
  exact ⟨h.1.2, h.2⟩
/-- Some hop of the path is of the step's AS, with one of its interfaces, in time. -/
def doorOk (now : Int) (ps : List Part) (s : Step) : Prop :=
  ∃ j i, j < ps.length ∧ i < (partAt ps j).hops.length ∧ (hopAt (partAt ps j).hops i).asn = s.asn ∧
    ((hopAt (partAt ps j).hops i).ing = s.ing ∨ (hopAt (partAt ps j).hops i).eg = s.ing ∨ (hopAt (partAt ps j).hops i).ing = s.eg ∨ (hopAt (partAt ps j).hops i).eg = s.eg ∨ (s.ing = 0 ∧ s.eg = 0)) ∧
    now ≤ (hopAt (partAt ps j).hops i).exp ∧ (partAt ps j).ts ≤ now
theorem hopIn_or (k : Int) (h : Hop) : hopIn k h = h.ing ∨ hopIn k h = h.eg := by unfold hopIn; split; exact .inr rfl; exact .inl rfl
theorem hopEg_or (k : Int) (h : Hop) : hopEg k h = h.ing ∨ hopEg k h = h.eg := by unfold hopEg; split; exact .inl rfl; exact .inr rfl
theorem wantIn_or {x : Pkt} (h : hasHop x = true) : wantIn x = 0 ∨ wantIn x = hopIn (curPart x).kind (curHop x) := by
  obtain ⟨_, _, h0, h1⟩ := hasHop_iff.1 h
  unfold wantIn
  split
  · exact .inl rfl
  · right
    have := partIn_at (p := curPart x) h1
    rw [show ((x.hi.toNat : Nat) : Int) = x.hi by omega] at this
    rw [this]; unfold curHop; rw [hopAt_at h1]
theorem door_go {t : Topo} {r now dead inn eg : Int} {x z : Pkt} (h : forward t r now dead inn x = ⟨0, eg, z⟩) : doorOk now x.path.parts ⟨r, inn, eg⟩ := by
  obtain ⟨hv, hs, hr, _, hch, _, h0⟩ := fw_ok h (.inl rfl)
  obtain ⟨_, _, _, _, _, _, _, _, heg, _⟩ := h0 rfl
  obtain ⟨hy1, _, hy3, hy4, _, _⟩ := chk_walk x.path.parts.length x (good_of_simple hs) (vp_hop hv) hch (by omega)
  have hci := curIn_at (chk_in _ _ hch).2
  generalize (chkAll t now x.path.parts.length x).2 = y at *
  obtain ⟨a0, a1, a2, a3⟩ := hasHop_iff.1 hy3
  unfold curPart at a3
  rw [hy1] at a1 a3
  have hcp : curPart y = partAt x.path.parts y.pi.toNat := by unfold curPart; rw [hy1]
  have hch' : curHop y = hopAt (partAt x.path.parts y.pi.toNat).hops y.hi.toNat := by unfold curHop; rw [hcp]
  have hpe : eg = hopEg (curPart y).kind (curHop y) := by
    have := partEg_at (p := curPart y) (i := y.hi.toNat) (by rw [hcp]; exact a3)
    rw [show ((y.hi.toNat : Nat) : Int) = y.hi by omega] at this
    rw [heg, this]; unfold curHop; rw [hopAt_at (by rw [hcp]; exact a3)]
  refine ⟨y.pi.toNat, y.hi.toNat, a1, a3, ?_, ?_, ?_, ?_⟩
  · rw [← hch', ← curAs_of hy3, hy4, hr]
  · rw [← hch']
    rcases hopEg_or (curPart y).kind (curHop y) with e | e
    · exact .inr (.inr (.inl (by rw [hpe, e])))
    · exact .inr (.inr (.inr (.inl (by rw [hpe, e]))))
  · rw [← hch']; exact hci.2
  · rw [← hcp]; exact hci.1
theorem door_end {t : Topo} {r now dead inn eg : Int} {x z : Pkt} (h : forward t r now dead inn x = ⟨1, eg, z⟩) : doorOk now x.path.parts ⟨r, inn, eg⟩ := by
  obtain ⟨hv, hs, hr, hin, hch, h1, _⟩ := fw_ok h (.inr rfl)
  obtain ⟨_, _, heg, _⟩ := h1 rfl
  have hx := vp_hop hv
  have hci := curIn_at (chk_in _ _ hch).1
  obtain ⟨a0, a1, a2, a3⟩ := hasHop_iff.1 hx
  refine ⟨x.pi.toNat, x.hi.toNat, a1, a3, ?_, ?_, hci.2, hci.1⟩
  · show (curHop x).asn = r
    rw [← curAs_of hx, hr]
  · show (curHop x).ing = inn ∨ (curHop x).eg = inn ∨ (curHop x).ing = eg ∨ (curHop x).eg = eg ∨ _
    rcases wantIn_or hx with e | e
    · exact .inr (.inr (.inr (.inr ⟨by show inn = 0; rw [hin, e], by show eg = 0; exact heg⟩)))
    · rcases hopIn_or (curPart x).kind (curHop x) with e2 | e2
      · exact .inl (by rw [hin, e, e2])
      · exact .inr (.inl (by rw [hin, e, e2]))
theorem walkAt_ne {t : Topo} : ∀ (n : Nat) (x : Pkt) (inn : Int), GoodP t x.path.parts → hasHop x = true → x.path.parts.length ≤ n + x.pi.toNat → walkAt x inn ≠ []
  | 0, x, _, _, h, hn => by have := (hasHop_iff.1 h).2.1; omega
  | n + 1, x, inn, G, h, hn => by
    by_cases hl : lastOf x = true
    · by_cases he : x.path.parts.length ≤ x.pi.toNat + 1
      · rw [walk_end inn h hl he]; simp
      · rw [walk_part inn 0 h hl (by omega)]
        have hp := part_pos 0 G h hl (by omega)
        have h0 := (hasHop_iff.1 h).1
        exact walkAt_ne n { x with pi := x.pi + 1, hi := 0, beta := 0 } inn G hp.1 (by show x.path.parts.length ≤ n + (x.pi + 1).toNat; omega)
    · rw [walk_hop inn h hl]; simp
/-- What a walk has done, from a place on. -/
structure Trod (t : Topo) (now : Int) (dead : List Int) (x : Pkt) (inn : Int) (l : List Step) (w : Trc) where
  pre : List Step
  suf : List Step
  cut : walkAt x inn = pre ++ suf
  steps : w.steps = l ++ pre
  code : w.code ≠ 0
  all : w.code = 1 → suf = []
  short : w.code ≠ 1 → simple t x.path = true → hasHop x = true → suf ≠ []
  door : ∀ s ∈ pre, doorOk now x.path.parts s
  okS : ∀ s ∈ pre, stepOk t s = true ∨ (s.eg = 0 ∧ ((s.asn = curAs x ∧ s.ing = inn) ∨ ∃ s', stepOk t s' = true ∧ remEnd t s'.asn s'.eg = (s.asn, s.ing)))
theorem trav_trod (t : Topo) (now : Int) (dead : List Int) : ∀ (f : Nat) (r inn : Int) (x : Pkt) (l : List Step), (simple t x.path = true → (walkAt x inn).length ≤ f) → (0 < f ∨ walkAt x inn ≠ [] ∧ simple t x.path = true) →
    Nonempty (Trod t now dead x inn l (trav t now dead f r inn x l))
  | 0, r, inn, x, l, hl, h0 => by
    rcases h0 with h0 | ⟨h0, hs⟩
    · omega
    · exact absurd (List.eq_nil_of_length_eq_zero (Nat.le_zero.1 (hl hs))) h0
  | f + 1, r, inn, x, l, hl, _ => by
    obtain ⟨v, hv⟩ : ∃ v, forward t r now (failedIfs t dead r) inn x = v := ⟨_, rfl⟩
    obtain ⟨cd, eg, z⟩ := v
    by_cases h0 : cd = 0
    · subst h0
      obtain ⟨_, hs, hr, _, _, _, hg⟩ := fw_ok hv (.inl rfl)
      obtain ⟨e1, e2, e3, e4, _, e6, _⟩ := hg rfl
      have hsz : simple t z.path = true := by rw [e4]; exact hs
      have hlx := hl hs
      rw [e1, List.length_cons] at hlx
      have hne : walkAt z (wantIn z) ≠ [] := walkAt_ne _ z _ (good_of_simple hsz) e3 (Nat.le_add_right _ _)
      obtain ⟨T⟩ := trav_trod t now dead f (curAs z) (wantIn z) z (l ++ [⟨r, inn, eg⟩]) (fun _ => by omega) (.inr ⟨hne, hsz⟩)
      rw [trav_go hv, e2]
      refine ⟨⟨r, inn, eg⟩ :: T.pre, T.suf, ?_, ?_, T.code, T.all, fun hc _ _ => T.short hc hsz e3, fun s hm => ?_, fun s hm => ?_⟩
      · rw [e1, T.cut]; rfl
      · rw [T.steps]; simp
      · rcases List.mem_cons.1 hm with rfl | hm
        · exact door_go hv
        · have := T.door s hm; rw [e4] at this; exact this
      · rcases List.mem_cons.1 hm with rfl | hm
        · exact .inl e6
        · rcases T.okS s hm with h | ⟨h1, h2⟩
          · exact .inl h
          · right
            refine ⟨h1, .inr ?_⟩
            rcases h2 with ⟨h3, h4⟩ | h2
            · exact ⟨⟨r, inn, eg⟩, e6, by rw [h3, h4]; exact e2⟩
            · exact h2
    · by_cases h1 : cd = 1
      · subst h1
        obtain ⟨_, hs, hr, _, _, hg, _⟩ := fw_ok hv (.inr rfl)
        obtain ⟨e1, _, e3, _⟩ := hg rfl
        rw [trav_del hv]
        refine ⟨[⟨r, inn, eg⟩], [], by rw [e1]; rfl, rfl, (by show (1 : Int) ≠ 0; decide), fun _ => rfl, fun h => absurd rfl h, fun s hm => ?_, fun s hm => ?_⟩
        · rw [List.mem_singleton.1 hm]; exact door_end hv
        · rw [List.mem_singleton.1 hm]; exact .inr ⟨e3, .inl ⟨hr.symm, rfl⟩⟩
      · rw [trav_bad hv h0 h1]
        exact ⟨[], walkAt x inn, rfl, by simp, h0, fun h => absurd h h1, fun _ hs hh => walkAt_ne _ x _ (good_of_simple hs) hh (Nat.le_add_right _ _), fun s hm => (by cases hm), fun s hm => (by cases hm)⟩
/-- How long what is left can be. -/
theorem wHops_len {cont : Int → Int → Hop → List Step} {m : Nat} (hc : ∀ k i h, (cont k i h).length ≤ m) (k : Int) : ∀ (hs : List Hop) (inn : Int), (wHops cont k inn hs).length ≤ hs.length + m
  | [], _ => by simp [wHops]
  | [h], inn => by have := hc k inn h; simp only [wHops, List.length_singleton]; omega
  | h :: h' :: hs, inn => by
    have := wHops_len hc k (h' :: hs) (hopIn k h')
    simp only [wHops, List.length_cons] at this ⊢
    omega
theorem wParts_len (z : Int → Hop → Int) : ∀ (ps : List Part) (k i : Int) (h : Hop), (wParts z ps k i h).length ≤ hopsN ps + 1
  | [], _, _, _ => by simp [wParts]
  | p :: ps, k, i, h => by
    have h1 := wHops_len (wParts_len z ps) p.kind p.hops i
    have h2 : hopsN (p :: ps) = p.hops.length + hopsN ps := by simp [hopsN, Part.size]
    unfold wParts
    omega
theorem hopsN_le8 {m : Nat} : ∀ (ps : List Part), (∀ p ∈ ps, p.hops.length ≤ m) → hopsN ps ≤ m * ps.length
  | [], _ => by simp [hopsN]
  | p :: ps, h => by
    have h1 := hopsN_le8 ps (fun q hq => h q (by simp [hq]))
    have h2 := h p (by simp)
    have h3 : hopsN (p :: ps) = p.hops.length + hopsN ps := by simp [hopsN, Part.size]
    rw [h3, List.length_cons, Nat.mul_succ]
    omega
theorem walk_short {t : Topo} {x : Pkt} (inn : Int) (h : simple t x.path = true) : (walkAt x inn).length ≤ 30 := by
  have hw : wfPath t x.path = true := by unfold simple at h; simp only [Bool.and_eq_true] at h; exact h.1
  unfold wfPath at hw
  simp only [Bool.and_eq_true] at hw
  have hl := (inR_true.1 hw.1).2
  have hp := allTo_true.1 hw.2
  have hb : ∀ j, j < x.path.parts.length → (partAt x.path.parts j).hops.length ≤ 8 := fun j hj => by
    have := hp j hj
    unfold partOk validPart hopsOk at this
    simp only [Bool.and_eq_true] at this
    have := (inR_true.1 this.1.1.1.1.2.1).2
    omega
  have h1 := wHops_len (wParts_len (fun _ _ => 0) (restP x)) (curPart x).kind (restH x) inn
  have h2 : (restH x).length ≤ 8 := by
    unfold restH
    rw [List.length_drop]
    by_cases hj : x.pi.toNat < x.path.parts.length
    · have := hb _ hj; unfold curPart; omega
    · unfold curPart partAt
      rw [List.getElem?_eq_none (by omega)]
      simp
  have h3 : hopsN (restP x) ≤ 8 * (restP x).length := hopsN_le8 _ (fun p hm => by
    obtain ⟨j, hj, rfl⟩ := List.getElem_of_mem (List.mem_of_mem_drop hm)
    have := hb j hj
    rwa [partAt_at hj] at this)
  have h4 : (restP x).length ≤ 2 := by unfold restP; rw [List.length_drop]; omega
  unfold walkAt
  omega
theorem traverse_trod (t : Topo) (now : Int) (dead : List Int) (x : Pkt) : Nonempty (Trod t now dead x 0 [] (traverse t now dead x)) :=
  trav_trod t now dead 30 x.src 0 x [] (fun h => walk_short 0 h) (.inl (by decide))
end
section
open Go.RowKit
/-- The hop at a place verifies. -/
def verAt (t : Topo) (ps : List Part) (j i : Nat) : Bool := verHop t (partAt ps j).ts (betaFor (partAt ps j) i) (hopAt (partAt ps j).hops i)
/-- The hop at a place is in time. -/
def timeAt (now : Int) (ps : List Part) (j i : Nat) : Bool := decide ((partAt ps j).ts ≤ now) && decide (now ≤ (hopAt (partAt ps j).hops i).exp)
def validAt (ps : List Part) (j i : Nat) : Prop := j < ps.length ∧ i < (partAt ps j).hops.length
/-- A place is not ahead of a packet. -/
def after (x : Pkt) (j i : Nat) : Prop := x.pi.toNat < j ∨ (x.pi.toNat = j ∧ x.hi.toNat ≤ i)
def betaOk (x : Pkt) : Prop := x.beta = betaTo (curPart x) x.hi.toNat
theorem betaAfter_to {x : Part} {i : Nat} (h : i ≤ x.hops.length) : betaAfter x i = betaTo x i := by
  unfold betaAfter; rw [if_pos (by omega)]; simp
theorem before_for {x : Pkt} (h : hasHop x = true) (hb : betaOk x) : curBefore x = betaFor (curPart x) x.hi.toNat := by
  obtain ⟨_, _, _, h3⟩ := hasHop_iff.1 h
  unfold curBefore betaFor
  rw [hb]
  split
  · rename_i hr
    rw [betaAfter_to (by omega), betaTo_succ h3, if_pos hr]
    unfold curHop; rw [hopAt_at h3]
  · rw [betaAfter_to (by omega)]
theorem after_to {x : Pkt} (h : hasHop x = true) (hb : betaOk x) : curAfter x = betaTo (curPart x) (x.hi.toNat + 1) := by
  obtain ⟨_, _, _, h3⟩ := hasHop_iff.1 h
  unfold curAfter
  rw [betaTo_succ h3, ← hb]
  unfold curHop; rw [hopAt_at h3]
theorem curOk_at {t : Topo} {x : Pkt} (h : hasHop x = true) (hb : betaOk x) : curOk t x = verAt t x.path.parts x.pi.toNat x.hi.toNat := by
  unfold curOk verAt
  rw [h, before_for h hb]; rfl
theorem curIn_time {t : Topo} {x : Pkt} {now : Int} (G : GoodP t x.path.parts) (h : hasHop x = true) : curIn x now = timeAt now x.path.parts x.pi.toNat x.hi.toNat := by
  unfold curIn timeAt
  rw [curAs_of h]
  have := asn_nn G h
  rw [decide_eq_true this, Bool.true_and]
  rfl
theorem verCur_yes {t : Topo} {x : Pkt} (h : curOk t x = true) : verCur t x = { x with beta := curAfter x } := by unfold verCur; rw [if_pos h]
theorem chk_res {t : Topo} {now : Int} : ∀ (f : Nat) (x : Pkt), GoodP t x.path.parts → hasHop x = true → betaOk x → x.path.parts.length ≤ f + x.pi.toNat + 1 →
    ((chkAll t now f x).1 = 0 ∧ (chkAll t now f x).2.beta = betaTo (curPart (chkAll t now f x).2) ((chkAll t now f x).2.hi.toNat + 1) ∧
        (∀ j i, validAt x.path.parts j i → after x j i → (after { (chkAll t now f x).2 with hi := (chkAll t now f x).2.hi + 1 } j i ∨ (verAt t x.path.parts j i = true ∧ timeAt now x.path.parts j i = true)))) ∨
      ((chkAll t now f x).1 = 4 ∧ ∃ j i, validAt x.path.parts j i ∧ verAt t x.path.parts j i = false) ∨ ((chkAll t now f x).1 = 5 ∧ ∃ j i, validAt x.path.parts j i ∧ timeAt now x.path.parts j i = false)
  | f, x, G, hx, hb, hf => by
    obtain ⟨h0, h1, h2, h3⟩ := hasHop_iff.1 hx
    have hco := curOk_at (t := t) hx hb
    have hci := curIn_time (now := now) G hx
    have hva : validAt x.path.parts x.pi.toNat x.hi.toNat := ⟨h1, h3⟩
    cases ho : curOk t x
    · right; left
      have hc : chkCode t now x = 4 := by unfold chkCode; rw [ho]; rfl
      have : (chkAll t now f x).1 = 4 := by
        cases f with
        | zero => exact hc
        | succ f => unfold chkAll; rw [hc]; simp
      exact ⟨this, _, _, hva, by rw [← hco, ho]⟩
    · cases hi : curIn x now
      · right; right
        have hc : chkCode t now x = 5 := by unfold chkCode; rw [ho, hi]; rfl
        have : (chkAll t now f x).1 = 5 := by
          cases f with
          | zero => exact hc
          | succ f => unfold chkAll; rw [hc]; simp
        exact ⟨this, _, _, hva, by rw [← hci, hi]⟩
      · have hc : chkCode t now x = 0 := by unfold chkCode; rw [ho, hi]; rfl
        have hvy := verCur_yes ho
        have hgood : verAt t x.path.parts x.pi.toNat x.hi.toNat = true ∧ timeAt now x.path.parts x.pi.toNat x.hi.toNat = true := ⟨by rw [← hco, ho], by rw [← hci, hi]⟩
        have stay : (chkAll t now f x).1 = 0 → (chkAll t now f x).2 = verCur t x → ((chkAll t now f x).1 = 0 ∧ (chkAll t now f x).2.beta = betaTo (curPart (chkAll t now f x).2) ((chkAll t now f x).2.hi.toNat + 1) ∧
            (∀ j i, validAt x.path.parts j i → after x j i → (after { (chkAll t now f x).2 with hi := (chkAll t now f x).2.hi + 1 } j i ∨ (verAt t x.path.parts j i = true ∧ timeAt now x.path.parts j i = true)))) := fun e1 e2 => by
          refine ⟨e1, ?_, fun j i hv ha => ?_⟩
          · rw [e2, hvy]; exact after_to hx hb
          · rw [e2, hvy]
            rcases ha with ha | ⟨ha, hb2⟩
            · exact .inl (.inl ha)
            · rcases Nat.lt_or_ge x.hi.toNat i with h9 | h9
              · exact .inl (.inr ⟨ha, by show (x.hi + 1).toNat ≤ i; omega⟩)
              · obtain rfl : i = x.hi.toNat := by omega
                subst ha
                exact .inr hgood
        cases f with
        | zero => exact .inl (stay hc rfl)
        | succ f =>
          by_cases hcond : (chkCode t now x == 0 && lastOf (verCur t x) && !(atLast (verCur t x))) = true
          · have e : chkAll t now (f + 1) x = chkAll t now f (advance (verCur t x)) := by rw [chkAll, if_pos hcond]
            simp only [Bool.and_eq_true, Bool.not_eq_true', beq_iff_eq] at hcond
            obtain ⟨⟨_, hl⟩, hna⟩ := hcond
            obtain ⟨p1, p2, p3, p4, _⟩ := verCur_pos t x
            have hv : hasHop (verCur t x) = true := by unfold hasHop curPart; rw [p1, p2, p3]; exact hx
            have Gv : GoodP t (verCur t x).path.parts := by rw [p3]; exact G
            obtain ⟨ha, hlt⟩ := adv_part Gv hv hl (by rw [hna]; decide)
            have hp := part_pos (partAt (verCur t x).path.parts ((verCur t x).pi.toNat + 1)).beta Gv hv hl hlt
            rw [← ha] at hp
            have hpath : (advance (verCur t x)).path = x.path := by rw [ha]; exact p3
            have hpi : (advance (verCur t x)).pi.toNat = x.pi.toNat + 1 := by rw [ha]; show ((verCur t x).pi + 1).toNat = _; rw [p1]; omega
            have hhi : (advance (verCur t x)).hi = 0 := by rw [ha]
            have hbn : betaOk (advance (verCur t x)) := by
              unfold betaOk curPart
              rw [hpath, hpi, hhi, ha]
              show (partAt (verCur t x).path.parts ((verCur t x).pi.toNat + 1)).beta = _
              rw [p3, p1]; rfl
            have hle := (lastOf_iff hv).1 hl
            rw [p2] at hle
            have hcp : curPart (verCur t x) = partAt x.path.parts x.pi.toNat := by unfold curPart; rw [p1, p3]
            rw [hcp] at hle
            have ih := chk_res (t := t) (now := now) f (advance (verCur t x)) (by rw [hpath]; exact G) hp.1 hbn (by rw [hpath, hpi]; omega)
            rw [e]
            rw [hpath] at ih
            rcases ih with ⟨i1, i2, i3⟩ | ih | ih
            · refine .inl ⟨i1, i2, fun j i hv2 ha2 => ?_⟩
              rcases ha2 with ha2 | ⟨ha2, hb2⟩
              · refine i3 j i hv2 ?_
                unfold after
                rw [hpi, hhi]
                rcases Nat.lt_or_ge (x.pi.toNat + 1) j with h9 | h9
                · exact .inl h9
                · exact .inr ⟨by omega, Nat.zero_le _⟩
              · subst ha2
                have h9 := hv2.2
                obtain rfl : i = x.hi.toNat := by omega
                exact .inr hgood
            · exact .inr (.inl ih)
            · exact .inr (.inr ih)
          · have e : chkAll t now (f + 1) x = (chkCode t now x, verCur t x) := by rw [chkAll, if_neg hcond]
            exact .inl (stay (by rw [e]; exact hc) (by rw [e]))
theorem beta_next {y : Pkt} {n : Int} (hn : 0 ≤ y.hi) (hb : y.beta = betaTo (curPart y) (y.hi.toNat + 1)) (h : n = y.hi + 1) : betaOk { y with hi := n } := by
  unfold betaOk
  show y.beta = betaTo (curPart y) n.toNat
  rw [hb, h, show (y.hi + 1).toNat = y.hi.toNat + 1 by omega]
/-- Delivered: every hop from the packet's place on verifies and is in time. -/
theorem trav_good (t : Topo) (now : Int) (dead : List Int) : ∀ (f : Nat) (r inn : Int) (x : Pkt) (l : List Step), betaOk x → (trav t now dead f r inn x l).code = 1 →
    simple t x.path = true ∧ ∀ j i, validAt x.path.parts j i → after x j i → verAt t x.path.parts j i = true ∧ timeAt now x.path.parts j i = true
  | 0, _, _, _, _, _, h => by unfold trav at h; cases h
  | f + 1, r, inn, x, l, hb, h => by
    obtain ⟨v, hv⟩ : ∃ v, forward t r now (failedIfs t dead r) inn x = v := ⟨_, rfl⟩
    obtain ⟨cd, eg, z⟩ := v
    by_cases h0 : cd = 0
    · subst h0
      obtain ⟨hvp, hs, _, _, hch, _, hg⟩ := fw_ok hv (.inl rfl)
      obtain ⟨_, _, e3, e4, _, _, _, ez, _⟩ := hg rfl
      have hx := vp_hop hvp
      rw [trav_go hv] at h
      obtain ⟨hy1, _, hy3, _⟩ := chk_walk x.path.parts.length x (good_of_simple hs) hx hch (by omega)
      have hr := chk_res (t := t) (now := now) x.path.parts.length x (good_of_simple hs) hx hb (by omega)
      rw [hch] at hr
      rcases hr with ⟨_, r2, r3⟩ | ⟨r1, _⟩ | ⟨r1, _⟩
      · have hbz : betaOk z := by rw [ez]; exact beta_next (hasHop_iff.1 hy3).2.2.1 r2 rfl
        have ih := trav_good t now dead f _ _ z _ hbz h
        rw [e4] at ih
        refine ⟨hs, fun j i hva ha => ?_⟩
        rcases r3 j i hva ha with h9 | h9
        · exact ih.2 j i hva (by rw [ez]; exact h9)
        · exact h9
      · cases r1
      · cases r1
    · by_cases h1 : cd = 1
      · subst h1
        obtain ⟨hvp, hs, _, _, hch, hg, _⟩ := fw_ok hv (.inr rfl)
        obtain ⟨_, _, _, _, hat⟩ := hg rfl
        have hx := vp_hop hvp
        obtain ⟨hy1, _, hy3, _⟩ := chk_walk x.path.parts.length x (good_of_simple hs) hx hch (by omega)
        have hr := chk_res (t := t) (now := now) x.path.parts.length x (good_of_simple hs) hx hb (by omega)
        rw [hch] at hr
        rcases hr with ⟨_, r2, r3⟩ | ⟨r1, _⟩ | ⟨r1, _⟩
        · refine ⟨hs, fun j i hva ha => ?_⟩
          rcases r3 j i hva ha with h9 | h9
          · exfalso
            have Gy : GoodP t (chkAll t now x.path.parts.length x).2.path.parts := by rw [hy1]; exact good_of_simple hs
            obtain ⟨hl, hf⟩ := (atLast_iff Gy hy3).1 hat
            have hle := (lastOf_iff hy3).1 hl
            have hy0 := (hasHop_iff.1 hy3).2.2.1
            unfold curPart at hle
            rw [hy1] at hf hle
            generalize (chkAll t now x.path.parts.length x).2 = y at *
            have hj := hva.1
            rcases h9 with h9 | ⟨h9, h10⟩
            · have h9' : y.pi.toNat < j := h9
              omega
            · have h9' : y.pi.toNat = j := h9
              have h10' : (y.hi + 1).toNat ≤ i := h10
              have hi := hva.2
              rw [← h9'] at hi
              omega
          · exact h9
        · cases r1
        · cases r1
      · rw [trav_bad hv h0 h1] at h
        exact absurd h h1
theorem vp_move {x z : Pkt} (h : validPkt x = true) (e1 : z.kind = x.kind) (e2 : z.path = x.path) (e3 : z.src = x.src) (e4 : z.dst = x.dst) (e5 : z.rid = x.rid) (e6 : z.seq = x.seq) (e7 : z.pay = x.pay) (hh : hasHop z = true) (hb : isRes z.beta = true) : validPkt z = true := by
  unfold validPkt at h ⊢
  rw [e1, e2, e3, e4, e5, e6, e7, hh, hb]
  simp only [Bool.and_eq_true] at h ⊢
  obtain ⟨⟨⟨⟨⟨⟨⟨⟨⟨a1, a2⟩, a3⟩, a4⟩, a5⟩, a6⟩, a7⟩, a8⟩, a9⟩, a10⟩ := h
  exact ⟨⟨⟨⟨⟨⟨⟨⟨⟨a1, a2⟩, trivial⟩, trivial⟩, a5⟩, a6⟩, a7⟩, a8⟩, a9⟩, a10⟩
theorem verCur_rest (t : Topo) (x : Pkt) : (verCur t x).kind = x.kind ∧ (verCur t x).rid = x.rid ∧ (verCur t x).seq = x.seq ∧ (verCur t x).pay = x.pay := by unfold verCur; split <;> exact ⟨rfl, rfl, rfl, rfl⟩
theorem adv_rest (x : Pkt) : (advance x).kind = x.kind ∧ (advance x).rid = x.rid ∧ (advance x).seq = x.seq ∧ (advance x).pay = x.pay ∧ (advance x).src = x.src ∧ (advance x).dst = x.dst ∧ (advance x).path = x.path := by
  unfold advance; split
  · exact ⟨rfl, rfl, rfl, rfl, rfl, rfl, rfl⟩
  · split <;> exact ⟨rfl, rfl, rfl, rfl, rfl, rfl, rfl⟩
theorem chk_rest (t : Topo) (now : Int) : ∀ (f : Nat) (x : Pkt), (chkAll t now f x).2.kind = x.kind ∧ (chkAll t now f x).2.rid = x.rid ∧ (chkAll t now f x).2.seq = x.seq ∧ (chkAll t now f x).2.pay = x.pay ∧ (chkAll t now f x).2.src = x.src ∧ (chkAll t now f x).2.dst = x.dst
  | 0, x => by
    obtain ⟨a1, a2, a3, a4⟩ := verCur_rest t x
    obtain ⟨_, _, _, b1, b2⟩ := verCur_pos t x
    exact ⟨a1, a2, a3, a4, b2, b1⟩
  | f + 1, x => by
    obtain ⟨a1, a2, a3, a4⟩ := verCur_rest t x
    obtain ⟨_, _, _, b1, b2⟩ := verCur_pos t x
    unfold chkAll
    split
    · obtain ⟨c1, c2, c3, c4, c5, c6⟩ := chk_rest t now f (advance (verCur t x))
      obtain ⟨d1, d2, d3, d4, d5, d6, _⟩ := adv_rest (verCur t x)
      exact ⟨c1.trans (d1.trans a1), c2.trans (d2.trans a2), c3.trans (d3.trans a3), c4.trans (d4.trans a4), c5.trans (d5.trans b2), c6.trans (d6.trans b1)⟩
    · exact ⟨a1, a2, a3, a4, b2, b1⟩
theorem betaTo_res {x : Part} {k : Nat} (h : k < x.hops.length) : isRes (betaTo x (k + 1)) = true := by
  rw [betaTo_succ h]; split; exact subMod_res _ _; exact addMod_res _ _
/-- Where every AS permits the steps and no link is down: delivered, or a hop does not verify, or one is not in time. -/
theorem trav_res (t : Topo) (now : Int) (dead : List Int) (hdead : ∀ r eg, inSet (failedIfs t dead r) eg = false) : ∀ (f : Nat) (r inn : Int) (x : Pkt) (l : List Step),
    validPkt x = true → simple t x.path = true → betaOk x → curAs x = r → inn = wantIn x → (∀ s ∈ walkAt x inn, stepOk t s = true) → (∀ s, (walkAt x inn).getLast? = some s → s.asn = x.dst) → (walkAt x inn).length ≤ f →
    ((trav t now dead f r inn x l).code = 1 ∧ (trav t now dead f r inn x l).steps = l ++ walkAt x inn ∧ (trav t now dead f r inn x l).pkt.path = x.path) ∨
      ((trav t now dead f r inn x l).code = 4 ∧ ∃ j i, validAt x.path.parts j i ∧ verAt t x.path.parts j i = false) ∨ ((trav t now dead f r inn x l).code = 5 ∧ ∃ j i, validAt x.path.parts j i ∧ timeAt now x.path.parts j i = false)
  | 0, r, inn, x, l, hvp, hs, _, _, _, _, _, hl => absurd (List.eq_nil_of_length_eq_zero (Nat.le_zero.1 hl)) (walkAt_ne _ x inn (good_of_simple hs) (vp_hop hvp) (Nat.le_add_right _ _))
  | f + 1, r, inn, x, l, hvp, hs, hb, hr, hin, hst, hdst, hl => by
    have hx := vp_hop hvp
    have G := good_of_simple hs
    have h1 : ¬ (!(validPkt x && simple t x.path && (curAs x == r))) = true := by rw [hvp, hs, hr]; simp
    have h2 : ¬ (inn != wantIn x) = true := by rw [hin]; simp
    have hcr := chk_res (t := t) (now := now) x.path.parts.length x G hx hb (by omega)
    have fwd : forward t r now (failedIfs t dead r) inn x = (if (chkAll t now x.path.parts.length x).1 != 0 then ⟨(chkAll t now x.path.parts.length x).1, 0, x⟩
      else if atLast (chkAll t now x.path.parts.length x).2 then (if (chkAll t now x.path.parts.length x).2.dst == r then ⟨1, 0, (chkAll t now x.path.parts.length x).2⟩ else ⟨2, 0, x⟩)
      else if !(stepOk t ⟨r, inn, partEg (curPart (chkAll t now x.path.parts.length x).2) (chkAll t now x.path.parts.length x).2.hi⟩) then ⟨6, 0, x⟩
      else if inSet (failedIfs t dead r) (partEg (curPart (chkAll t now x.path.parts.length x).2) (chkAll t now x.path.parts.length x).2.hi) then ⟨7, 0, x⟩
      else ⟨0, partEg (curPart (chkAll t now x.path.parts.length x).2) (chkAll t now x.path.parts.length x).2.hi, advance (chkAll t now x.path.parts.length x).2⟩ : Vd) := by
      unfold forward
      rw [if_neg h1, if_neg h2]
    rcases hcr with ⟨r1, r2, _⟩ | ⟨r1, r2⟩ | ⟨r1, r2⟩
    · obtain ⟨hy1, hy2, hy3, hy4, hy5, hy6⟩ := chk_walk x.path.parts.length x G hx r1 (by omega)
      obtain ⟨k1, k2, k3, k4, k5, k6⟩ := chk_rest t now x.path.parts.length x
      rw [if_neg (by rw [r1]; decide)] at fwd
      generalize (chkAll t now x.path.parts.length x).2 = y at *
      have Gy : GoodP t y.path.parts := by rw [hy1]; exact G
      have hyr : (curHop y).asn = r := by rw [← curAs_of hy3, hy4, hr]
      by_cases hat : atLast y = true
      · obtain ⟨hla, hfi⟩ := (atLast_iff Gy hy3).1 hat
        have hw : walkAt x inn = [⟨r, inn, 0⟩] := by rw [← hy5, walk_end inn hy3 hla hfi, hyr]
        have hd := hdst ⟨r, inn, 0⟩ (by rw [hw]; rfl)
        rw [if_pos hat, if_pos (by rw [k6, beq_iff_eq]; exact hd.symm)] at fwd
        left
        rw [trav_del fwd, hw]
        exact ⟨rfl, rfl, hy1⟩
      · have hla : ¬ lastOf y = true := fun e => hat (hy6 e)
        have hadv := adv_hop Gy hy3 hla
        obtain ⟨hp0, hp1, hi0, hi1⟩ := hasHop_iff.1 hy3
        have hlt : y.hi.toNat + 1 < (curPart y).hops.length := by
          have h9 : ¬ y.hi.toNat + 1 = (curPart y).hops.length := fun e => hla ((lastOf_iff hy3).2 e)
          omega
        have heg : partEg (curPart y) y.hi = hopEg (curPart y).kind (curHop y) := by
          have := partEg_at (p := curPart y) hi1
          rw [show ((y.hi.toNat : Nat) : Int) = y.hi by omega] at this
          rw [this]; unfold curHop; rw [hopAt_at hi1]
        have hw := hy5 inn
        rw [walk_hop inn hy3 hla, hyr, ← heg] at hw
        have hs1 := hst ⟨r, inn, partEg (curPart y) y.hi⟩ (by rw [← hw]; simp)
        rw [if_neg hat, hs1, hdead, hadv] at fwd
        simp only [Bool.not_true, Bool.false_eq_true, if_false] at fwd
        obtain ⟨_, _, _, _, _, _, hg⟩ := fw_ok fwd (.inl rfl)
        obtain ⟨e1, e2, e3, e4, e5, _⟩ := hg rfl
        rw [trav_go fwd, e2]
        rw [e1, List.length_cons] at hl
        have hne : walkAt { y with hi := y.hi + 1 } (wantIn { y with hi := y.hi + 1 }) ≠ [] := walkAt_ne _ _ _ (by rw [e4]; exact G) e3 (Nat.le_add_right _ _)
        have hbz : betaOk { y with hi := y.hi + 1 } := beta_next hi0 r2 rfl
        have hres : isRes y.beta = true := by rw [r2]; exact betaTo_res (by omega)
        have ih := trav_res t now dead hdead f (curAs { y with hi := y.hi + 1 }) (wantIn { y with hi := y.hi + 1 }) { y with hi := y.hi + 1 } (l ++ [⟨r, inn, partEg (curPart y) y.hi⟩])
          (vp_move hvp k1 hy1 k5 k6 k2 k3 k4 e3 hres) (by rw [e4]; exact hs) hbz rfl rfl (fun s hm => hst s (by rw [e1]; exact List.mem_cons_of_mem _ hm))
          (fun s he => by
            rw [e5]
            refine hdst s ?_
            rw [e1]
            cases hq : walkAt { y with hi := y.hi + 1 } (wantIn { y with hi := y.hi + 1 }) with
            | nil => exact absurd hq hne
            | cons a b => rw [hq] at he; rw [List.getLast?_cons_cons]; exact he) (by omega)
        have e4' := e4
        generalize ({ y with hi := y.hi + 1 } : Pkt) = z at *
        rw [e4'] at ih
        rcases ih with ⟨i1, i2, i3⟩ | ih | ih
        · exact .inl ⟨i1, by rw [i2, e1, List.append_assoc]; rfl, i3⟩
        · exact .inr (.inl ih)
        · exact .inr (.inr ih)
    · rw [if_pos (by rw [r1]; decide), r1] at fwd
      right; left
      rw [trav_bad fwd (by decide) (by decide)]
      exact ⟨rfl, r2⟩
    · rw [if_pos (by rw [r1]; decide), r1] at fwd
      right; right
      rw [trav_bad fwd (by decide) (by decide)]
      exact ⟨rfl, r2⟩
end
end Go.Proofs.Ytikbeiafobnblaa
