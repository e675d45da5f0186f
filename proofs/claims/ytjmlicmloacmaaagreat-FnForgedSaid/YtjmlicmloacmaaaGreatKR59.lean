/- What these laws need: FnForged: A path with one hop's time changed is walked no further than to that hop. -/
import Derived.Test.YtjmlicmloacmaaaGreatKR16
import Derived.Test.YtjmlicmloacmaaaGreatKR44
namespace Go.Proofs.YtjmlicmloacmaaaGreat
section
open Go.RowKit
def er (h : Hop) : Hop := { h with exp := 0 }
def erP (x : Part) : Part := { x with hops := x.hops.map er }
theorem hopAt_er (l : List Hop) (i : Nat) : hopAt (l.map er) i = er (hopAt l i) := by
  unfold hopAt
  rw [List.getElem?_map]
  cases l[i]? <;> rfl
theorem partAt_er (l : List Part) (i : Nat) : partAt (l.map erP) i = erP (partAt l i) := by
  unfold partAt
  rw [List.getElem?_map]
  cases l[i]? <;> rfl
theorem hopsTo_er (m : Bool) (k : Int) (out : List Step) (hs : List Hop) : ∀ i, hopsTo m k out (hs.map er) i = hopsTo m k out hs i
  | 0 => rfl
  | i + 1 => by
    unfold hopsTo
    rw [hopsTo_er m k out hs i, List.getElem?_map]
    cases hs[i]? <;> rfl
theorem partsTo_er (ps : List Part) : ∀ k, partsTo (ps.map erP) k = partsTo ps k
  | 0 => rfl
  | k + 1 => by
    unfold partsTo
    rw [partsTo_er ps k, List.getElem?_map]
    cases ps[k]? with
    | none => rfl
    | some p =>
      show hopsTo _ p.kind _ (p.hops.map er) (p.hops.map er).length = _
      rw [hopsTo_er, List.length_map]
theorem steps_er (ps : List Part) : pathSteps (ps.map erP) = pathSteps ps := by unfold pathSteps; rw [List.length_map, partsTo_er]
theorem partIn_er (x : Part) (i : Int) : partIn (erP x) i = partIn x i := by
  unfold partIn erP
  simp only [List.length_map, List.getElem?_map]
  split
  · cases x.hops[i.toNat]? <;> rfl
  · rfl
theorem partEg_er (x : Part) (i : Int) : partEg (erP x) i = partEg x i := by
  unfold partEg erP
  simp only [List.length_map, List.getElem?_map]
  split
  · cases x.hops[i.toNat]? <;> rfl
  · rfl
theorem joinAt_er (t : Topo) (x : Part) (i : Nat) : joinAt t (erP x) i = joinAt t x i := by
  unfold joinAt
  rw [partEg_er, partIn_er]
  show (partEg x i != 0 && (remEnd t (hopAt (x.hops.map er) i).asn (partEg x i)).1 == (hopAt (x.hops.map er) (i + 1)).asn && (remEnd t (hopAt (x.hops.map er) i).asn (partEg x i)).2 == partIn x (i + 1 : Nat)) = _
  rw [hopAt_er, hopAt_er]
  rfl
theorem betaTo_er (x : Part) : ∀ k, betaTo (erP x) k = betaTo x k
  | 0 => rfl
  | k + 1 => by
    have ih := betaTo_er x k
    unfold betaTo
    rw [ih]
    show (match (x.hops.map er)[k]? with | some h => if isRev x.kind then subMod (betaTo x k) h.mac else addMod (betaTo x k) h.mac | none => betaTo x k) = _
    rw [List.getElem?_map]
    cases x.hops[k]? <;> rfl
theorem betaFor_er (x : Part) (i : Nat) : betaFor (erP x) i = betaFor x i := by
  unfold betaFor betaAfter
  have h1 : (erP x).hops.length = x.hops.length := by simp [erP]
  have h2 : (erP x).kind = x.kind := rfl
  rw [h1, h2, betaTo_er, betaTo_er]
theorem asns_er (l : List Hop) : (l.map er).map (·.asn) = l.map (·.asn) := by rw [List.map_map]; rfl
theorem er_valid {t : Topo} {x y : Part} (h : erP x = erP y) (hv : validPart t x = true) (hy : ∀ z ∈ y.hops, validHop z = true) : validPart t y = true := by
  have e0 : x.kind = y.kind ∧ x.ts = y.ts ∧ x.beta = y.beta ∧ x.hops.map er = y.hops.map er := by
    unfold erP at h
    injection h with a b c d
    exact ⟨a, b, c, d⟩
  obtain ⟨a, b, c, d⟩ := e0
  have hl : x.hops.length = y.hops.length := by simpa using congrArg List.length d
  unfold validPart hopsOk at hv ⊢
  simp only [Bool.and_eq_true] at hv ⊢
  obtain ⟨⟨⟨⟨h1, h2, h3⟩, h4⟩, h5⟩, h6⟩ := hv
  rw [allTo_true] at h3 h6
  refine ⟨⟨⟨⟨by rw [← a]; exact h1, by rw [← hl]; exact h2, ?_⟩, by rw [← b]; exact h4⟩, by rw [← c]; exact h5⟩, ?_⟩
  · rw [allTo_true]
    intro i hi
    have h7 := h3 i (by omega)
    unfold hopFresh at h7 ⊢
    simp only [Bool.and_eq_true] at h7 ⊢
    have e1 : (hopAt y.hops i).asn = (hopAt x.hops i).asn := by
      have e2 := congrArg (fun l => (hopAt l i).asn) d
      simp only [hopAt_er] at e2
      exact e2.symm
    have e3 : y.hops.map (·.asn) = x.hops.map (·.asn) := by rw [← asns_er y.hops, ← asns_er x.hops, d]
    rw [e1, e3]
    exact ⟨⟨by rw [hopAt_at hi]; exact hy _ (List.getElem_mem _), h7.1.2⟩, h7.2⟩
  · rw [allTo_true, ← hl]
    intro i hi
    rw [← joinAt_er t y i, ← h, joinAt_er]
    exact h6 i hi
/-- The path with the times out of it is simple, where the other one's hops are valid. -/
theorem er_simple {t : Topo} {p q : Pth} (h : p.parts.map erP = q.parts.map erP) (hs : simple t p = true) (hy : ∀ x ∈ q.parts, ∀ z ∈ x.hops, validHop z = true) : simple t q = true := by
  have hst : pathSteps q.parts = pathSteps p.parts := by rw [← steps_er q.parts, ← h, steps_er]
  have hl : p.parts.length = q.parts.length := by simpa using congrArg List.length h
  unfold simple at hs ⊢
  rw [hst]
  simp only [Bool.and_eq_true] at hs ⊢
  refine ⟨?_, hs.2⟩
  have hw := hs.1
  unfold wfPath at hw ⊢
  simp only [Bool.and_eq_true] at hw ⊢
  rw [← hl]
  refine ⟨hw.1, ?_⟩
  have h2 := hw.2
  rw [allTo_true] at h2 ⊢
  have ep : ∀ i, erP (partAt p.parts i) = erP (partAt q.parts i) := fun i => by rw [← partAt_er, h, partAt_er]
  intro i hi
  have h3 := h2 i hi
  unfold partOk at h3 ⊢
  simp only [Bool.and_eq_true] at h3 ⊢
  refine ⟨er_valid (ep i) h3.1 (fun z hz => ?_), ?_⟩
  · rw [partAt_at (show i < q.parts.length by omega)] at hz
    exact hy _ (List.getElem_mem _) z hz
  · have hf : ∀ i, followAt q.parts i = followAt p.parts i := fun i => by
      have k1 := congrArg Part.kind (ep i)
      have k2 := congrArg Part.kind (ep (i + 1))
      have l1 := congrArg (fun x : Part => x.hops.length) (ep i)
      have l2 := congrArg (fun x : Part => (hopAt x.hops ((partAt p.parts i).hops.length - 1)).asn) (ep i)
      have l3 := congrArg (fun x : Part => (hopAt x.hops 0).asn) (ep (i + 1))
      simp only [erP, hopAt_er, List.length_map] at k1 k2 l1 l2 l3
      unfold followAt
      rw [← k1, ← k2, ← l1]
      have l2' : (hopAt (partAt p.parts i).hops ((partAt p.parts i).hops.length - 1)).asn = (hopAt (partAt q.parts i).hops ((partAt p.parts i).hops.length - 1)).asn := l2
      have l3' : (hopAt (partAt p.parts (i + 1)).hops 0).asn = (hopAt (partAt q.parts (i + 1)).hops 0).asn := l3
      rw [← l2', ← l3']
    rw [hf]; exact h3.2
/-- One hop expires later. -/
def later (p : Pth) (j k : Nat) (a : Int) : Pth := ⟨p.parts.set j { partAt p.parts j with hops := (partAt p.parts j).hops.set k { hopAt (partAt p.parts j).hops k with exp := (hopAt (partAt p.parts j).hops k).exp + 1 + a } }⟩
theorem later_er {p : Pth} {j k : Nat} {a : Int} (hj : j < p.parts.length) (hk : k < (partAt p.parts j).hops.length) : p.parts.map erP = (later p j k a).parts.map erP := by
  unfold later
  simp only
  rw [List.map_set]
  have : erP { partAt p.parts j with hops := (partAt p.parts j).hops.set k { hopAt (partAt p.parts j).hops k with exp := (hopAt (partAt p.parts j).hops k).exp + 1 + a } } = erP (partAt p.parts j) := by
    unfold erP
    simp only [List.map_set]
    congr 1
    have e : er { hopAt (partAt p.parts j).hops k with exp := (hopAt (partAt p.parts j).hops k).exp + 1 + a } = ((partAt p.parts j).hops.map er)[k]'(by simpa using hk) := by
      rw [List.getElem_map, ← hopAt_at hk]; rfl
    rw [e, List.set_getElem_self]
  rw [this, partAt_at hj]
  have e2 : erP p.parts[j] = (p.parts.map erP)[j]'(by simpa using hj) := by rw [List.getElem_map]
  rw [e2, List.set_getElem_self]
theorem later_part {p : Pth} {j k : Nat} {a : Int} (hj : j < p.parts.length) (i : Nat) : partAt (later p j k a).parts i = if i = j then { partAt p.parts j with hops := (partAt p.parts j).hops.set k { hopAt (partAt p.parts j).hops k with exp := (hopAt (partAt p.parts j).hops k).exp + 1 + a } } else partAt p.parts i := by
  unfold later partAt
  simp only
  rw [List.getElem?_set]
  by_cases h : i = j
  · subst h; simp [hj]
  · rw [if_neg (fun e => h e.symm), if_neg h]
theorem mac_late {k ts b : Int} {h : Hop} {a : Int} (ha : 0 ≤ a ∧ a ≤ 255) : hopMac k ts b { h with exp := h.exp + 1 + a } ≠ hopMac k ts b h := by
  have := mac_set k [ts, b, h.asn, h.ing, h.eg, h.exp] 5 (by simp) (h.exp + 1 + a) (by simp; omega)
  simpa [hopMac] using this
theorem forged {t : Topo} (T : TopoOk t) {p : Pth} (D : PthDrawn t p) (hu : usable t p 50 = true) (ha : allowed t p) {j k : Nat} (hj : j < p.parts.length) (hk : k < (partAt p.parts j).hops.length) {a : Int} (h0 : 0 ≤ a ∧ a ≤ 255) :
    (traverse t 50 [] (newPkt 1 (later p j k a) 0 0 [])).code = 4 ∧ (traverse t 50 [] (newPkt 1 (later p j k a) 0 0 [])).steps.length < (pathSteps p.parts).length := by
  obtain ⟨hs, hver, htime⟩ := usable_of hu
  have her := later_er (a := a) hj hk
  have good : ∀ i, i < p.parts.length → PartGood (partAt p.parts i) := fun i hi => by rw [partAt_at hi]; exact (D.part _ (List.getElem_mem _)).good T
  have hlq : (later p j k a).parts.length = p.parts.length := by simp [later]
  have hop : ∀ x ∈ (later p j k a).parts, ∀ z ∈ x.hops, validHop z = true := by
    intro x hx z hz
    obtain ⟨i, hi, rfl⟩ := List.getElem_of_mem hx
    rw [← partAt_at hi, later_part hj] at hz
    by_cases hij : i = j
    · rw [if_pos hij] at hz
      simp only at hz
      rcases List.mem_or_eq_of_mem_set hz with h | h
      · exact ((good j hj).hops z h).1
      · have h1 := (good j hj).hops (hopAt (partAt p.parts j).hops k) (by rw [hopAt_at hk]; exact List.getElem_mem _)
        rw [h]
        have h2 := h1.1
        unfold validHop at h2 ⊢
        simp only [Bool.and_eq_true] at h2 ⊢
        exact ⟨⟨h2.1.1, inR_true.2 (by omega)⟩, h2.2⟩
    · rw [if_neg hij] at hz
      exact ((good i (by omega)).hops z hz).1
  have hsq := er_simple her hs hop
  have hst : pathSteps (later p j k a).parts = pathSteps p.parts := by rw [← steps_er, ← her, steps_er]
  have haq : allowed t (later p j k a) := by unfold allowed; rw [hst]; exact ha
  have heq : encPath (later p j k a) = true := by
    unfold encPath
    simp only [Bool.and_eq_true, decide_eq_true_eq, List.all_eq_true]
    refine ⟨by rw [hlq]; exact D.len, fun x hx => ?_⟩
    have hv := hop x hx
    obtain ⟨i, hi, rfl⟩ := List.getElem_of_mem hx
    have hi' : i < p.parts.length := by omega
    have hg := good i hi'
    have e : erP (partAt (later p j k a).parts i) = erP (partAt p.parts i) := by rw [← partAt_er, ← her, partAt_er]
    rw [partAt_at hi] at e
    unfold erP at e
    injection e with e1 e2 e3 e4
    have e5 : (later p j k a).parts[i].hops.length = (partAt p.parts i).hops.length := by simpa using congrArg List.length e4
    unfold encPart hopsEnc
    simp only [Bool.and_eq_true, inR_true, decide_eq_true_eq, List.all_eq_true]
    exact ⟨⟨⟨by rw [e1]; exact hg.kind, by rw [e2]; have := hg.ts; omega⟩, by rw [e3]; exact hg.beta⟩, by rw [e5]; have := hg.len; omega, hv⟩
  have O := start_ok (kind := 1) (rid := 0) (seq := 0) (pay := []) hsq heq (by omega) (by omega) (by omega) (by simp)
  have hva : validAt (later p j k a).parts j k := ⟨by omega, by rw [later_part hj, if_pos rfl]; simpa using hk⟩
  have hbad : verAt t (later p j k a).parts j k = false := by
    have hv1 := hver j k ⟨hj, hk⟩
    have hb : betaFor (partAt (later p j k a).parts j) k = betaFor (partAt p.parts j) k := by
      rw [← betaFor_er, ← partAt_er, ← her, partAt_er, betaFor_er]
    unfold verAt at hv1 ⊢
    rw [hb, later_part hj, if_pos rfl]
    simp only
    rw [hopAt_at (show k < ((partAt p.parts j).hops.set k { hopAt (partAt p.parts j).hops k with exp := (hopAt (partAt p.parts j).hops k).exp + 1 + a }).length by simpa using hk), List.getElem_set_self]
    generalize hopAt (partAt p.parts j).hops k = h at *
    unfold verHop at hv1 ⊢
    simp only [Bool.and_eq_true, beq_iff_eq] at hv1
    have hm : (h.mac == hopMac (asAt t h.asn).key (partAt p.parts j).ts (betaFor (partAt p.parts j) k) { h with exp := h.exp + 1 + a }) = false := by
      rw [beq_eq_false_iff_ne, hv1.2]
      exact fun e => mac_late h0 e.symm
    simp only [hm, Bool.and_false]
  have htq : ∀ i m, validAt (later p j k a).parts i m → timeAt 50 (later p j k a).parts i m = true := by
    intro i m hv
    obtain ⟨v1, v2⟩ := hv
    rw [hlq] at v1
    rw [later_part hj] at v2
    unfold timeAt
    rw [later_part hj]
    by_cases hij : i = j
    · subst hij
      rw [if_pos rfl] at v2 ⊢
      simp only [List.length_set] at v2
      have h3 := htime i m ⟨hj, v2⟩
      unfold timeAt at h3
      simp only [Bool.and_eq_true, decide_eq_true_eq] at h3 ⊢
      refine ⟨h3.1, ?_⟩
      rw [hopAt_at (by simpa using v2), List.getElem_set]
      by_cases hkm : k = m
      · subst hkm; rw [if_pos rfl]; simp only; omega
      · rw [if_neg hkm, ← hopAt_at v2]; exact h3.2
    · rw [if_neg hij] at v2 ⊢
      exact htime i m ⟨v1, v2⟩
  have hgood : ¬ (traverse t 50 [] (newPkt 1 (later p j k a) 0 0 [])).code = 1 := fun hc => by
    have : verAt t (later p j k a).parts j k = true ∧ timeAt 50 (later p j k a).parts j k = true := (trav_good t 50 [] 30 _ 0 _ [] O.beta hc).2 j k hva (by
      unfold after newPkt
      simp only [Int.toNat_zero]
      omega)
    rw [hbad] at this
    cases this.1
  have hcode : (traverse t 50 [] (newPkt 1 (later p j k a) 0 0 [])).code = 4 := by
    rcases out_res (now := 50) O hsq haq with r | r | ⟨_, i, m, hv, r⟩
    · exact absurd r.1 hgood
    · exact r.1
    · rw [htq i m hv] at r; cases r
  refine ⟨hcode, ?_⟩
  obtain ⟨W⟩ := traverse_trod t 50 [] (newPkt 1 (later p j k a) 0 0 [])
  have hsuf := W.short hgood hsq O.has
  have hc := congrArg List.length W.cut
  rw [O.walk, hst, List.length_append] at hc
  have hp := List.length_pos_iff.2 hsuf
  have hstp : (traverse t 50 [] (newPkt 1 (later p j k a) 0 0 [])).steps = W.pre := by rw [W.steps]; rfl
  rw [hstp]
  omega
end
end Go.Proofs.YtjmlicmloacmaaaGreat
