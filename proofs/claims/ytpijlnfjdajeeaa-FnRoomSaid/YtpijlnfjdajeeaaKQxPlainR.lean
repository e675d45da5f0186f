/- When there is room for a path: a plain law. No condition. -/
import Derived.Test.YtpijlnfjdajeeaaKQ29
namespace Go.Proofs.Ytpijlnfjdajeeaa
open Go.RowKit

theorem sumRate_in (a i now : Int) : ∀ (l : List Resv) (n : Int), (∀ x ∈ l, 0 ≤ x.rate ∧ x.rate ≤ 20) → 0 ≤ n → n + 20 * (l.length : Int) ≤ 100000 → 0 ≤ sumRate a i now l n ∧ sumRate a i now l n ≤ n + 20 * (l.length : Int)
  | [], n, _, h0, _ => by simp [sumRate, h0]
  | r :: l, n, h, h0, h1 => by
    have hr := h r (by simp)
    simp only [List.length_cons] at h1 ⊢
    simp only [sumRate]
    split
    · have e : wrap64 (n + r.rate) = n + r.rate := by unfold wrap64; omega
      rw [e]
      have := sumRate_in a i now l (n + r.rate) (fun q hq => h q (by simp [hq])) (by omega) (by omega)
      omega
    · have := sumRate_in a i now l n (fun q hq => h q (by simp [hq])) h0 (by omega)
      omega
theorem without_all {x : Resv} {l : List Resv} (h : ∀ y ∈ l, y.id = x.id → ¬ (y.asn = x.asn ∧ y.iface = x.iface)) : without x l = l := by
  refine List.filter_eq_self.2 (fun y hy => ?_)
  cases ho : otherResv x y
  · have := other_false.1 ho
    exact absurd this.2 (h y hy this.1)
  · rfl
/-- Reserving goes through exactly if there is room everywhere. -/
theorem rsvGo_iff {id rate till c now : Int} (hid : 1 ≤ id ∧ id ≤ 100000) (hra : 1 ≤ rate ∧ rate ≤ 20) (ht : 0 ≤ till ∧ till ≤ 1000000) (htn : now ≤ till) : ∀ (ss : List Step) (out : List Resv),
    (∀ x ∈ out, 0 ≤ x.rate ∧ x.rate ≤ 20) → out.length + ss.length ≤ 1000 → (∀ s ∈ ss, 1 ≤ s.eg ∧ s.eg ≤ 6 ∧ 0 ≤ s.asn ∧ s.asn ≤ 7) →
    ss.Pairwise (fun a b => ¬ (a.asn = b.asn ∧ a.eg = b.eg)) → (∀ x ∈ out, x.id = id → ∀ s ∈ ss, ¬ (x.asn = s.asn ∧ x.iface = s.eg)) →
    ((rsvGo id rate till c now ss out).isSome = true ↔ (∀ s ∈ ss, resvdRate out s.asn s.eg now + rate ≤ c) ∧ (ss = [] ∨ out.length + ss.length ≤ 40))
  | [], out, _, _, _, _, _ => by simp [rsvGo]
  | s :: ss, out, hb, hl, hs, hp, hd => by
    obtain ⟨x, hx⟩ : ∃ x : Resv, x = ⟨id, s.asn, s.eg, rate, till⟩ := ⟨_, rfl⟩
    have hw : without x out = out := without_all (fun y hy h1 h2 => hd y hy (by rw [h1, hx]) s (by simp) (by rw [hx] at h2; exact h2))
    have hsl := hs s (by simp)
    simp only [List.length_cons] at hl
    have hsum := sumRate_in s.asn s.eg now out 0 hb (by omega) (by omega)
    have hv : validResv x = true := by
      rw [hx]
      unfold validResv validRev
      simp only [Bool.and_eq_true, inR_true]
      omega
    have hwr : wrap64 (resvdRate out s.asn s.eg now + rate) = resvdRate out s.asn s.eg now + rate := by
      have h1 := hsum.1
      have h2 := hsum.2
      unfold resvdRate
      unfold wrap64
      omega
    have hrf : refused out x c now = (decide (c < resvdRate out s.asn s.eg now + rate) || decide (40 ≤ out.length)) := by
      unfold refused tooMuch
      rw [hw, hv]
      have h1 : x.asn = s.asn := by rw [hx]
      have h2 : x.iface = s.eg := by rw [hx]
      have h3 : x.rate = rate := by rw [hx]
      have h4 : x.till = till := by rw [hx]
      rw [h1, h2, h3, h4, hwr]
      have h5 : decide (till < now) = false := decide_eq_false (by omega)
      rw [h5]
      simp
    unfold rsvGo
    rw [← hx]
    cases hr : refused out x c now
    · rw [admit_yes hr, hw, if_pos rfl]
      rw [hrf] at hr
      simp only [Bool.or_eq_false_iff, decide_eq_false_iff_not] at hr
      have hres : ∀ q ∈ ss, resvdRate (out ++ [x]) q.asn q.eg now = resvdRate out q.asn q.eg now := fun q hq => by
        have h1 := resvd_else (x := x) (l := out) (a := q.asn) (i := q.eg) (now := now) (fun e => (List.pairwise_cons.1 hp).1 q hq (by rw [hx] at e; exact e))
        rw [hw] at h1
        exact h1
      have ih := rsvGo_iff (c := c) hid hra ht htn ss (out ++ [x]) (fun y hy => by
          rcases List.mem_append.1 hy with h | h
          · exact hb y h
          · rw [List.mem_singleton.1 h, hx]; simp only; omega) (by simp; omega) (fun q hq => hs q (by simp [hq])) (List.pairwise_cons.1 hp).2 (fun y hy h1 q hq h2 => by
          rcases List.mem_append.1 hy with h | h
          · exact hd y h h1 q (by simp [hq]) h2
          · rw [List.mem_singleton.1 h, hx] at h2
            exact (List.pairwise_cons.1 hp).1 q hq h2)
      rw [ih]
      constructor
      · rintro ⟨h1, h2⟩
        refine ⟨fun q hq => ?_, .inr ?_⟩
        · rcases List.mem_cons.1 hq with rfl | hq
          · omega
          · rw [← hres q hq]; exact h1 q hq
        · rcases h2 with rfl | h2
          · simp; omega
          · simp at h2 ⊢; omega
      · rintro ⟨h1, h2⟩
        refine ⟨fun q hq => by rw [hres q hq]; exact h1 q (by simp [hq]), .inr ?_⟩
        rcases h2 with h2 | h2
        · cases h2
        · simp at h2 ⊢; omega
    · rw [admit_no hr, if_neg (by simp)]
      rw [hrf] at hr
      simp only [Bool.or_eq_true, decide_eq_true_eq] at hr
      constructor
      · intro h; cases h
      · rintro ⟨h1, h2⟩
        exfalso
        have h3 := h1 s (by simp)
        rcases h2 with h2 | h2
        · cases h2
        · simp only [List.length_cons] at h2
          omega
theorem leastTo_iff {f : Step → Int} {l : List Step} {r : Int} : ∀ k, 0 < k → k ≤ l.length → (r ≤ leastTo f l k ↔ ∀ (i : Nat) (hi : i < l.length), i < k → r ≤ f l[i])
  | 0, h0, _ => absurd h0 (Nat.lt_irrefl _)
  | k + 1, _, hk => by
    have hk' : k < l.length := by omega
    rw [leastTo_succ hk']
    cases k with
    | zero =>
      rw [if_pos (by simp)]
      constructor
      · intro h i hi h1
        obtain rfl : i = 0 := by omega
        exact h
      · intro h; exact h 0 hk' (by omega)
    | succ m =>
      have ih := leastTo_iff (f := f) (l := l) (r := r) (m + 1) (by omega) (by omega)
      by_cases hc : f l[m + 1] < leastTo f l (m + 1)
      · rw [if_pos (by simp [hc])]
        constructor
        · intro h i hi h1
          by_cases he : i = m + 1
          · subst he; exact h
          · exact ih.1 (by omega) i hi (by omega)
        · intro h; exact h (m + 1) hk' (by omega)
      · rw [if_neg (by simp [hc])]
        constructor
        · intro h i hi h1
          by_cases he : i = m + 1
          · subst he; omega
          · exact ih.1 h i hi (by omega)
        · intro h; exact ih.2 (fun i hi h1 => h i hi (by omega))
/-- The places of a path that uses no interface twice differ. -/
theorem places_differ {L : List Step} (h : (usedIfs L).Nodup) : (egSteps L).Pairwise (fun a b => ¬ (a.asn = b.asn ∧ a.eg = b.eg)) := by
  have h1 := (List.pairwise_flatMap.1 h).2
  have h2 := h1.filter (fun s => s.eg != 0)
  refine List.Pairwise.imp_of_mem (fun {a b} ha hb hab e => ?_) h2
  have ha0 : a.eg ≠ 0 := by simpa using (List.mem_filter.1 ha).2
  have hb0 : b.eg ≠ 0 := by simpa using (List.mem_filter.1 hb).2
  refine hab (ifNum a.asn a.eg) (by unfold stepIfs; simp [ha0]) (ifNum b.asn b.eg) (by unfold stepIfs; simp [hb0]) ?_
  rw [e.1, e.2]
/-- A path is reserved exactly if there is room. -/
theorem room {l : List Resv} {y : Pth} {rate : Int} {L : List Step} (hL : egSteps (pathSteps y.parts) = L) (hl : l.length ≤ 40) (hb : ∀ x ∈ l, x.id ≤ 5 ∧ 0 ≤ x.rate ∧ x.rate ≤ 20) (hr : 1 ≤ rate ∧ rate ≤ 20) (hn : (usedIfs (pathSteps y.parts)).Nodup)
    (hs : ∀ s ∈ L, 1 ≤ s.eg ∧ s.eg ≤ 6 ∧ 0 ≤ s.asn ∧ s.asn ≤ 7) (hLl : L.length ≤ 100) :
    (reservePath l 77 y rate 60 8 45).2 = (decide (0 < L.length) && decide (rate ≤ availRate l y 8 45) && decide (l.length + L.length ≤ 40)) := by
  have hpd := places_differ hn
  rw [hL] at hpd
  have hiff := rsvGo_iff (id := 77) (rate := rate) (till := 60) (c := 8) (now := 45) (by omega) hr (by omega) (by omega) L l (fun x hx => (hb x hx).2) (by omega) hs hpd (fun x hx h => by have := (hb x hx).1; omega)
  unfold reservePath availRate
  rw [hL]
  by_cases h0 : 0 < L.length
  · have hle := leastTo_iff (f := fun s => freeRate l 8 s.asn s.eg 45) (l := L) (r := rate) L.length h0 (Nat.le_refl _)
    have hfree : ∀ s : Step, rate ≤ freeRate l 8 s.asn s.eg 45 ↔ resvdRate l s.asn s.eg 45 + rate ≤ 8 := fun s => by
      have hsum := sumRate_in s.asn s.eg 45 l 0 (fun x hx => (hb x hx).2) (by omega) (by omega)
      have h1 : 0 ≤ resvdRate l s.asn s.eg 45 ∧ resvdRate l s.asn s.eg 45 ≤ 1000 := by unfold resvdRate; omega
      unfold freeRate
      have e : wrap64 (8 - resvdRate l s.asn s.eg 45) = 8 - resvdRate l s.asn s.eg 45 := by unfold wrap64; omega
      rw [e]
      omega
    have hall : (rate ≤ leastTo (fun s => freeRate l 8 s.asn s.eg 45) L L.length) ↔ ∀ s ∈ L, resvdRate l s.asn s.eg 45 + rate ≤ 8 := by
      rw [hle]
      constructor
      · intro h s hs
        obtain ⟨i, hi, rfl⟩ := List.getElem_of_mem hs
        exact (hfree _).1 (h i hi hi)
      · intro h i hi _
        exact (hfree _).2 (h _ (List.getElem_mem hi))
    have hne : ¬ L = [] := List.ne_nil_of_length_pos h0
    cases hg : rsvGo 77 rate 60 8 45 L l with
    | none =>
      rw [hg] at hiff
      simp only [Option.isSome_none, Bool.false_eq_true, false_iff, not_and, not_or] at hiff
      symm
      rw [Bool.and_eq_false_iff, Bool.and_eq_false_iff]
      by_cases h1 : rate ≤ leastTo (fun s => freeRate l 8 s.asn s.eg 45) L L.length
      · exact .inr (decide_eq_false (hiff (hall.1 h1)).2)
      · exact .inl (.inr (decide_eq_false h1))
    | some out =>
      rw [hg] at hiff
      have h1 := hiff.1 rfl
      have h2 := hall.2 h1.1
      have h3 := h1.2.resolve_left hne
      simp [h0, h2, h3]
  · have he : L = [] := List.eq_nil_of_length_eq_zero (by omega)
    rw [he]
    simp [rsvGo]
end Go.Proofs.Ytpijlnfjdajeeaa
