/- What admitting a reservation does: plain laws. No condition. -/
import Derived.Test.YtebmeolkiafdaaaW36
namespace Go.Proofs.Ytebmeolkiafdaaa
open Go.RowKit

theorem sumRate_app (a i now : Int) : ∀ (l m : List Resv) (n : Int), sumRate a i now (l ++ m) n = sumRate a i now m (sumRate a i now l n)
  | [], _, _ => rfl
  | r :: l, m, n => by simp only [List.cons_append, sumRate]; exact sumRate_app a i now l m _
/-- Those that stand at another place count for nothing. -/
theorem sumRate_filter (a i now : Int) (p : Resv → Bool) : ∀ (l : List Resv) (n : Int), (∀ r ∈ l, p r = false → resvAtNow r a i now = false) → sumRate a i now (l.filter p) n = sumRate a i now l n
  | [], _, _ => rfl
  | r :: l, n, h => by
    have ih := fun n => sumRate_filter a i now p l n (fun q hq => h q (by simp [hq]))
    cases hp : p r
    · rw [List.filter_cons_of_neg (by simp [hp]), ih]
      simp [sumRate, h r (by simp) hp]
    · rw [List.filter_cons_of_pos hp]
      simp only [sumRate]
      exact ih _
theorem at_eq {r : Resv} {a i : Int} : resvAt r a i = true ↔ r.asn = a ∧ r.iface = i := by simp [resvAt]
theorem now_true {r : Resv} {a i now : Int} : resvAtNow r a i now = true ↔ (r.asn = a ∧ r.iface = i) ∧ now ≤ r.till := by
  unfold resvAtNow; rw [Bool.and_eq_true, at_eq, decide_eq_true_eq]
theorem other_false {x y : Resv} : otherResv x y = false ↔ y.id = x.id ∧ y.asn = x.asn ∧ y.iface = x.iface := by
  unfold otherResv
  rw [Bool.or_eq_false_iff, Bool.not_eq_false', at_eq]
  simp
/-- The rate of x itself is counted where it stands. -/
theorem resvd_admit {x : Resv} {l : List Resv} {now : Int} (h : now ≤ x.till) : resvdRate (without x l ++ [x]) x.asn x.iface now = wrap64 (resvdRate (without x l) x.asn x.iface now + x.rate) := by
  unfold resvdRate
  rw [sumRate_app]
  simp only [sumRate]
  rw [if_pos (now_true.2 ⟨⟨rfl, rfl⟩, h⟩)]
theorem resvd_else {x : Resv} {l : List Resv} {a i now : Int} (h : ¬ (x.asn = a ∧ x.iface = i)) : resvdRate (without x l ++ [x]) a i now = resvdRate l a i now := by
  unfold resvdRate
  rw [sumRate_app]
  simp only [sumRate]
  rw [if_neg (fun e => h (now_true.1 e).1)]
  refine sumRate_filter a i now _ l 0 (fun r _ hr => ?_)
  have := other_false.1 hr
  cases hh : resvAtNow r a i now
  · rfl
  · have h2 := (now_true.1 hh).1
    exact absurd ⟨this.2.1.symm.trans h2.1, this.2.2.symm.trans h2.2⟩ h
theorem resvRate_skip (id a i now : Int) : ∀ (l m : List Resv), (∀ r ∈ l, ((r.id == id) && resvAtNow r a i now) = false) → resvRate (l ++ m) id a i now = resvRate m id a i now
  | [], _, _ => rfl
  | r :: l, m, h => by
    rw [List.cons_append, resvRate, h r (by simp)]
    exact resvRate_skip id a i now l m (fun q hq => h q (by simp [hq]))
theorem rate_admit {x : Resv} {l : List Resv} {now : Int} (h : now ≤ x.till) : resvRate (without x l ++ [x]) x.id x.asn x.iface now = x.rate := by
  rw [resvRate_skip]
  · simp [resvRate, now_true.2 ⟨⟨rfl, rfl⟩, h⟩]
  · intro r hr
    have := (List.mem_filter.1 hr).2
    cases hh : (r.id == x.id) && resvAtNow r x.asn x.iface now
    · rfl
    · simp only [Bool.and_eq_true, beq_iff_eq] at hh
      have h2 := (now_true.1 hh.2).1
      rw [other_false.2 ⟨hh.1, h2.1, h2.2⟩] at this
      cases this
theorem rate_none (id a i now : Int) (l : List Resv) (h : ∀ r ∈ l, r.id ≠ id) : resvRate l id a i now = 0 := by
  have := resvRate_skip id a i now l [] (fun r hr => by simp [h r hr])
  rwa [List.append_nil] at this
theorem release_ids {id : Int} {l : List Resv} : ∀ r ∈ release id l, r.id ≠ id := fun r hr => by simpa using (List.mem_filter.1 hr).2
theorem rate_release (id a i now : Int) (l : List Resv) : resvRate (release id l) id a i now = 0 := rate_none _ _ _ _ _ release_ids

theorem resvsOk_iff {l : List Resv} {c now : Int} : resvsOk l c now l.length = true ↔ (∀ x ∈ l, resvFits l c now x = true) ∧ l.Pairwise (fun y x => otherResv x y = true) := by
  unfold resvsOk
  rw [List.all_eq_true]
  constructor
  · intro h
    have hk : ∀ (i : Nat) (hi : i < l.length), resvFits l c now l[i] = true ∧ (l.take i).all (otherResv l[i]) = true := fun i hi => by
      have := h i (List.mem_range.2 hi)
      rw [List.getElem?_eq_getElem hi] at this
      simpa using this
    refine ⟨fun x hx => ?_, ?_⟩
    · obtain ⟨i, hi, rfl⟩ := List.getElem_of_mem hx
      exact (hk i hi).1
    · rw [List.pairwise_iff_getElem]
      intro i j hi hj hij
      have := List.all_eq_true.1 (hk j hj).2 l[i] (List.mem_take_iff_getElem.2 ⟨i, by omega, rfl⟩)
      exact this
  · rintro ⟨h1, h2⟩ i hi
    have hi := List.mem_range.1 hi
    rw [List.getElem?_eq_getElem hi]
    simp only [Bool.and_eq_true]
    refine ⟨h1 _ (List.getElem_mem hi), List.all_eq_true.2 fun y hy => ?_⟩
    obtain ⟨j, hj, rfl⟩ := List.mem_take_iff_getElem.1 hy
    exact List.pairwise_iff_getElem.1 h2 j i (by omega) hi (by omega)
/-- Admitting keeps what was right, right. -/
theorem valid_admit {l : List Resv} {x : Resv} {c now : Int} (hr : refused l x c now = false) (hv : validResvs l c now = true) : validResvs (without x l ++ [x]) c now = true := by
  unfold refused at hr
  simp only [Bool.or_eq_false_iff, Bool.not_eq_false', decide_eq_false_iff_not] at hr
  obtain ⟨⟨⟨hx, ht⟩, hm⟩, hn⟩ := hr
  unfold validResvs at hv ⊢
  rw [Bool.and_eq_true, resvsOk_iff] at hv ⊢
  obtain ⟨hl, hf, hp⟩ := hv
  have hle : resvdRate (without x l ++ [x]) x.asn x.iface now ≤ c := by
    rw [resvd_admit (by omega)]
    unfold tooMuch at hm
    simp only [decide_eq_false_iff_not] at hm
    omega
  refine ⟨by simp; omega, fun y hy => ?_, ?_⟩
  · unfold resvFits
    rw [Bool.and_eq_true, decide_eq_true_eq]
    by_cases he : x.asn = y.asn ∧ x.iface = y.iface
    · refine ⟨?_, by rw [← he.1, ← he.2]; exact hle⟩
      rcases List.mem_append.1 hy with h | h
      · have := hf y (List.mem_filter.1 h).1
        unfold resvFits at this
        simp only [Bool.and_eq_true] at this
        exact this.1
      · rw [List.mem_singleton.1 h]; exact hx
    · have hyl : y ∈ l := by
        rcases List.mem_append.1 hy with h | h
        · exact (List.mem_filter.1 h).1
        · rw [List.mem_singleton.1 h] at he; exact absurd ⟨rfl, rfl⟩ he
      have := hf y hyl
      unfold resvFits at this
      simp only [Bool.and_eq_true, decide_eq_true_eq] at this
      rw [resvd_else he]
      exact this
  · rw [List.pairwise_append]
    refine ⟨hp.filter _, List.pairwise_singleton _ _, fun y hy z hz => ?_⟩
    rw [List.mem_singleton.1 hz]
    exact (List.mem_filter.1 hy).2
theorem admit_ok {l : List Resv} {x : Resv} {c now : Int} (h : (admit l x c now).2 = true) : refused l x c now = false ∧ (admit l x c now).1 = without x l ++ [x] ∧ now ≤ x.till := by
  cases hr : refused l x c now
  · have h2 := hr
    unfold refused at h2
    simp only [Bool.or_eq_false_iff, decide_eq_false_iff_not] at h2
    exact ⟨rfl, by rw [admit_yes hr], by omega⟩
  · unfold admit at h; rw [hr] at h; cases h
theorem admit_bad {l : List Resv} {x : Resv} {c now : Int} (h : (admit l x c now).2 = false) : (admit l x c now).1 = l := by
  cases hr : refused l x c now
  · rw [admit_yes hr] at h; cases h
  · unfold admit; rw [hr]; rfl

end Go.Proofs.Ytebmeolkiafdaaa
