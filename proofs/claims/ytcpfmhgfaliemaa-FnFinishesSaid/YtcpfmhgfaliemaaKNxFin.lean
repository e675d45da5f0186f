/- A region that draws its order, walked along one schedule: what only reads is taken as soon as it may come up, in a class of worlds; the last operations, which all others are ahead of, may leave that class. No condition. -/
import Derived.Test.YtcpfmhgfaliemaaKN11
namespace Go.Proofs.Ytcpfmhgfaliemaa
open Go.ChangeShapes Go.WideShapes Go.ChangeAt Go.RowKit Go.Deep

section
variable {P : Program} {ops : Array Oper} {Q : Exit → Act → World → Prop} {C : World → Prop}

/-- Whatever order is picked: the world meets C behind each operation that X does not name. -/
def wpAnyX (P : Program) (ops : Array Oper) (Q : Exit → Act → World → Prop) (C : World → Prop) (X : Nat → Bool) : Nat → Array Bool → Act → World → Prop
  | 0, listed, a, w => Region.ready .any ops listed = [] ∧ Q .normal a w
  | fuel + 1, listed, a, w =>
    (Region.ready .any ops listed = [] → Q .normal a w) ∧
    ∀ i ∈ Region.ready .any ops listed, wpOp P ops Q i (fun a' w' => (X i = false → C w') ∧ wpAnyX P ops Q C X fuel (listed.setIfInBounds i true) a' w') a w
theorem wpAny_of_X {X : Nat → Bool} : ∀ (fuel : Nat) (listed : Array Bool) (a : Act) (w : World), wpAnyX P ops Q C X fuel listed a w → wpAny P .any ops Q fuel listed a w
  | 0, _, _, _, h => h
  | fuel + 1, _, _, _, h => ⟨h.1, fun i hi => wpOp_mono (fun a' w' h' => wpAny_of_X fuel _ a' w' h'.2) (h.2 i hi)⟩
theorem wpAnyX_first {X : Nat → Bool} {i : Nat} {oi : Oper} {v : Value} {n : Nat} (hi : ops[i]? = some oi) (hsel : ∀ (j : Nat) (o : Oper) cs b, ops[j]? = some o → o.op ≠ .select cs b)
    (hQ : ∀ c a w, Q (.panic c) (a.put oi.dst v) w → Q (.panic c) a w) :
    ∀ (fuel : Nat) (listed : Array Bool) (a : Act) (w : World), Closed ops listed →
      (∀ j oj, ops[j]? = some oj → j ≠ i → listed.getD j true = false → (∀ e ∈ oj.after, Region.binds .any e = true → e.on ≠ i) → oi.apart ops oj = true) →
      (∀ j oj, ops[j]? = some oj → j ≠ i → listed.getD j true = false → X j = false ∨ waitsT ops n j i = true) →
      i ∈ Region.ready .any ops listed → YieldsIf P ops C oi v a → C w →
      wpAnyX P ops Q C X fuel (listed.setIfInBounds i true) (a.put oi.dst v) w → wpAnyX P ops Q C X (fuel + 1) listed a w := by
  intro fuel
  induction fuel with
  | zero =>
    intro listed a w _ _ _ hr hy hC H
    refine ⟨fun h => (by rw [h] at hr; cases hr), fun j hj => ?_⟩
    by_cases hji : j = i
    · subst hji; exact hy.wpOp hi hC ⟨fun _ => hC, H⟩
    · have := ready_mono hj hji
      rw [H.1] at this
      cases this
  | succ fuel ih =>
    intro listed a w hc hfree hX hr hy hC H
    refine ⟨fun h => (by rw [h] at hr; cases hr), fun j hj => ?_⟩
    by_cases hji : j = i
    · subst hji; exact hy.wpOp hi hC ⟨fun _ => hC, H⟩
    · have h1 := H.2 j (ready_mono hj hji)
      obtain ⟨hjun, oj, hoj, hall⟩ := mem_ready.1 hj
      have h0 := (mem_ready.1 hr).1
      have hXj : X j = false := by
        rcases hX j oj hoj hji hjun with h4 | h4
        · exact h4
        · exact absurd hj (hc.not_ready h4 h0)
      have hnot : ∀ e ∈ oj.after, Region.binds .any e = true → e.on ≠ i := fun e he hb heq => by
        have h1 := hall e he hb
        rw [heq] at h1
        rcases Nat.lt_or_ge i listed.size with h' | h'
        · simp [h'] at h0 h1; rw [h0] at h1; cases h1
        · simp [Array.getElem?_eq_none h'] at h1
      have h2 := wpOp_putIf hoj (hfree j oj hoj hji hjun hnot) (fun cs b => hsel i oi cs b hi) (fun cs b => hsel j oj cs b hoj) hQ hy h1
      have hstep : ∀ k, (listed.setIfInBounds j true).getD k true = false → listed.getD k true = false := fun k hun => by
        by_cases hjk : j = k
        · subst hjk; exact hjun
        · rw [getD_set_ne true hjk] at hun; exact hun
      refine wpOp_mono (fun a' w' h3 => ⟨h3.2.1, ih (listed.setIfInBounds j true) a' w' (hc.set hj) (fun k ok hk hki hun hno => hfree k ok hk hki (hstep k hun) hno) (fun k ok hok hk hun => hX k ok hok hk (hstep k hun)) (ready_mono hr (Ne.symm hji)) h3.1 (h3.2.1 hXj) ?_⟩) h2
      rw [Array.setIfInBounds_comm _ _ hji]
      exact h3.2.2
theorem wpAnyX_done {X : Nat → Bool} {listed : Array Bool} {a : Act} {w : World} (hr : Region.ready .any ops listed = []) (h : Q .normal a w) : ∀ fuel, wpAnyX P ops Q C X fuel listed a w
  | 0 => ⟨hr, h⟩
  | _ + 1 => ⟨fun _ => h, by rw [hr]; simp⟩

/-- The last operations come up one by one. -/
def lastX (ops : Array Oper) : List Nat → Array Bool → Bool
  | [], listed => (Region.ready .any ops listed).isEmpty
  | i :: l, listed => (Region.ready .any ops listed == [i]) && lastX ops l (listed.setIfInBounds i true)
def plainX (ops : Array Oper) (xs : List Nat) (listed : Array Bool) (i : Nat) : Bool := (List.range ops.size).all fun j => j == i || listed.getD j true || !xs.contains j || waitsT ops ops.size j i
def schedX (ops : Array Oper) (xs : List Nat) : List (Nat × Bool) → Array Bool → Bool
  | [], listed => lastX ops xs listed
  | (i, true) :: rest, listed => ((ops[i]?).map fun o => plainOp o.op).getD false && (Region.ready .any ops listed).contains i && Region.free .any ops listed i && plainX ops xs listed i && schedX ops xs rest (listed.setIfInBounds i true)
  | (i, false) :: rest, listed => (Region.ready .any ops listed == [i]) && !xs.contains i && schedX ops xs rest (listed.setIfInBounds i true)
def wpSchedX (P : Program) (ops : Array Oper) (Q : Exit → Act → World → Prop) (C : World → Prop) (xs : List Nat) : List (Oper × Bool) → Act → World → Prop
  | [], a, w => wpList P ops Q (pickOps ops xs) a w
  | (o, true) :: rest, a, w => if Region.wanted o (yielded ops a.tmps) then o.quiet P a C (fun a' => wpSchedX P ops Q C xs rest a' w) else wpSchedX P ops Q C xs rest (a.put o.dst undef) w
  | (o, false) :: rest, a, w => wpList P ops (Exit.then (fun a' w' => C w' ∧ wpSchedX P ops Q C xs rest a' w') Q) [o] a w
theorem wpList_op {o : Oper} {l : List Oper} {a : Act} {w : World} {i : Nat} (ho : ops[i]? = some o) (h : wpList P ops Q (o :: l) a w) : wpOp P ops Q i (fun a' w' => wpList P ops Q l a' w') a w := by
  unfold wpOp
  simp only [ho]
  simp only [wpList] at h
  exact h
theorem wpAnyX_last {X : Nat → Bool} (hX : ∀ i, X i = false → C = C) (hall : ∀ i w, X i = true → (X i = false → C w)) :
    ∀ (xs : List Nat) (fuel : Nat) (listed : Array Bool) (a : Act) (w : World), (∀ i ∈ xs, X i = true) → xs.length ≤ fuel → lastX ops xs listed = true → wpList P ops Q (pickOps ops xs) a w → wpAnyX P ops Q C X fuel listed a w
  | [], fuel, listed, a, w, _, _, hB, h => wpAnyX_done (by simpa [lastX] using hB) (by simpa [pickOps, wpList] using h) fuel
  | i :: l, 0, _, _, _, _, hf, _, _ => absurd hf (by simp)
  | i :: l, fuel + 1, listed, a, w, hx, hf, hB, h => by
    simp only [lastX, Bool.and_eq_true] at hB
    obtain ⟨hr, hB'⟩ := hB
    have hr' : Region.ready .any ops listed = [i] := by simpa using hr
    have hm : i ∈ Region.ready .any ops listed := by rw [hr']; simp
    obtain ⟨_, oi, hoi, _⟩ := mem_ready.1 hm
    refine ⟨fun h0 => absurd (hr' ▸ h0) (by simp), fun j hj => ?_⟩
    obtain rfl : j = i := by rw [hr'] at hj; simpa using hj
    have hp : pickOps ops (j :: l) = oi :: pickOps ops l := by simp [pickOps, hoi]
    rw [hp] at h
    exact wpOp_mono (fun a' w' hh => ⟨hall j w' (hx j (by simp)), wpAnyX_last hX hall l fuel _ a' w' (fun k hk => hx k (by simp [hk])) (by simpa using hf) hB' hh⟩) (wpList_op hoi h)
theorem wpAnyX_sched (hs : Region.noSelect ops = true) (hQ : ∀ c (a : Act) d v w, Q (.panic c) (a.put d v) w → Q (.panic c) a w) (xs : List Nat) :
    ∀ (l : List (Nat × Bool)) (fuel : Nat) (listed : Array Bool) (a : Act) (w : World), l.length + xs.length ≤ fuel → Closed ops listed → schedX ops xs l listed = true → C w → wpSchedX P ops Q C xs (schedOps ops l) a w → wpAnyX P ops Q C (fun j => xs.contains j) fuel listed a w
  | [], fuel, listed, a, w, hf, _, hB, _, h => wpAnyX_last (fun _ _ => rfl) (fun i _ h1 h2 => by rw [h1] at h2; cases h2) xs fuel listed a w (fun i hi => by simpa using hi) (by simpa using hf) hB h
  | (i, t) :: rest, 0, _, _, _, hf, _, _, _, _ => absurd hf (by simp)
  | (i, true) :: rest, fuel + 1, listed, a, w, hf, hc, hB, hC, h => by
    simp only [schedX, Bool.and_eq_true] at hB
    obtain ⟨⟨⟨⟨hp, hr⟩, hfr⟩, hpx⟩, hB'⟩ := hB
    have hr2 : i ∈ Region.ready .any ops listed := by simpa using hr
    have hlx : ∀ j oj, ops[j]? = some oj → j ≠ i → listed.getD j true = false → xs.contains j = false ∨ waitsT ops ops.size j i = true := by
      intro j oj hoj hji hun
      unfold plainX at hpx
      have := List.all_eq_true.1 hpx j (List.mem_range.2 (Array.getElem?_eq_some_iff.1 hoj).1)
      simp only [Bool.or_eq_true, beq_iff_eq, Bool.not_eq_true'] at this
      rcases this with ((h1 | h1) | h1) | h1
      · exact absurd h1 hji
      · rw [h1] at hun; cases hun
      · exact .inl h1
      · exact .inr h1
    cases ho : ops[i]? with
    | none => simp [ho] at hp
    | some o =>
      have hp' : plainOp o.op = true := by simpa [ho] using hp
      have hso : schedOps ops ((i, true) :: rest) = (o, true) :: schedOps ops rest := by simp [schedOps, ho]
      rw [hso] at h
      simp only [wpSchedX] at h
      have hl : rest.length + xs.length ≤ fuel := by simp at hf; omega
      by_cases hw : Region.wanted o (yielded ops a.tmps) = true
      · rw [if_pos hw] at h
        obtain ⟨v, hv, hn⟩ := h
        exact wpAnyX_first ho (Region.noSelect_spec hs) (fun c a w => hQ c a _ _ w) fuel listed a w hc (Region.free_spec ho hfr) hlx hr2 (yieldsIf_of_quiet hp' hw hv) hC (wpAnyX_sched hs hQ xs rest fuel _ _ _ hl (hc.set hr2) hB' hC hn)
      · rw [if_neg hw] at h
        exact wpAnyX_first (v := undef) ho (Region.noSelect_spec hs) (fun c a w => hQ c a _ _ w) fuel listed a w hc (Region.free_spec ho hfr) hlx hr2 (.inr ⟨by simpa using hw, rfl⟩) hC (wpAnyX_sched hs hQ xs rest fuel _ _ _ hl (hc.set hr2) hB' hC h)
  | (i, false) :: rest, fuel + 1, listed, a, w, hf, hc, hB, hC, h => by
    simp only [schedX, Bool.and_eq_true] at hB
    obtain ⟨⟨hr, hx⟩, hB'⟩ := hB
    have hr' : Region.ready .any ops listed = [i] := by simpa using hr
    have hm : i ∈ Region.ready .any ops listed := by rw [hr']; simp
    obtain ⟨_, oi, hoi, _⟩ := mem_ready.1 hm
    have hso : schedOps ops ((i, false) :: rest) = (oi, false) :: schedOps ops rest := by simp [schedOps, hoi]
    rw [hso] at h
    simp only [wpSchedX] at h
    refine ⟨fun h0 => absurd (hr' ▸ h0) (by simp), fun j hj => ?_⟩
    obtain rfl : j = i := by rw [hr'] at hj; simpa using hj
    exact wpOp_mono (fun a' w' hh => ⟨fun _ => hh.1, wpAnyX_sched hs hQ xs rest fuel _ _ _ (by simp at hf; omega) (hc.set hm) hB' hh.1 hh.2⟩) (wpList_one hoi h)
/-- Blocks of plain operations, each with one that comes up alone; plain ones; then the last ones. -/
def wpBlocksX (P : Program) (ops : Array Oper) (Q : Exit → Act → World → Prop) (C : World → Prop) (xs : List Nat) : List (List Nat × Nat) → List Nat → Act → World → Prop
  | [], tail, a, w => wpQuiet P ops C (fun a' => wpList P ops Q (pickOps ops xs) a' w) (pickOps ops tail) a
  | (l1, s) :: bs, tail, a, w => wpQuiet P ops C (fun a' => wpList P ops (Exit.then (fun a2 w2 => C w2 ∧ wpBlocksX P ops Q C xs bs tail a2 w2) Q) (pickOps ops [s]) a' w) (pickOps ops l1) a
theorem wpSchedX_quiet {xs : List Nat} {rest : List (Oper × Bool)} {w : World} : ∀ (l1 : List Oper) (a : Act), wpQuiet P ops C (fun a' => wpSchedX P ops Q C xs rest a' w) l1 a → wpSchedX P ops Q C xs (l1.map (fun o => (o, true)) ++ rest) a w
  | [], _, h => h
  | o :: l1, a, h => by
    simp only [List.map_cons, List.cons_append, wpSchedX, wpQuiet] at h ⊢
    by_cases hw : Region.wanted o (yielded ops a.tmps) = true
    · rw [if_pos hw] at h ⊢
      obtain ⟨v, hv, hn⟩ := h
      exact ⟨v, hv, wpSchedX_quiet l1 _ hn⟩
    · rw [if_neg hw] at h ⊢
      exact wpSchedX_quiet l1 _ h
theorem wpSchedX_blocks {xs : List Nat} : ∀ (bs : List (List Nat × Nat)) (tail : List Nat), (∀ b ∈ bs, b.2 < ops.size) → ∀ (a : Act) (w : World), wpBlocksX P ops Q C xs bs tail a w → wpSchedX P ops Q C xs (schedOps ops (blocks bs tail)) a w
  | [], tail, _, a, w, h => by
    simp only [blocks, schedOps_plain]
    have := wpSchedX_quiet (Q := Q) (xs := xs) (rest := []) (w := w) (pickOps ops tail) a h
    simpa using this
  | (l1, s) :: bs, tail, hb, a, w, h => by
    have hs : s < ops.size := hb (l1, s) (by simp)
    have ho : ops[s]? = some ops[s] := by simp [hs]
    have hso : schedOps ops ((s, false) :: blocks bs tail) = (ops[s], false) :: schedOps ops (blocks bs tail) := by simp [schedOps, ho]
    have hps : pickOps ops [s] = [ops[s]] := by simp [pickOps, ho]
    simp only [blocks, schedOps_append, schedOps_plain, hso]
    refine wpSchedX_quiet (pickOps ops l1) a (wpQuiet_mono (fun a' h' => ?_) _ _ h)
    rw [hps] at h'
    have hm : ∀ e a2 w2, Exit.then (fun a2 w2 => C w2 ∧ wpBlocksX P ops Q C xs bs tail a2 w2) Q e a2 w2 → Exit.then (fun a2 w2 => C w2 ∧ wpSchedX P ops Q C xs (schedOps ops (blocks bs tail)) a2 w2) Q e a2 w2 := by
      intro e a2 w2 hh
      cases e with
      | normal => exact ⟨hh.1, wpSchedX_blocks bs tail (fun b hbm => hb b (by simp [hbm])) a2 w2 hh.2⟩
      | _ => exact hh
    exact wpList_mono hm h'
/-- The region: worlds that differ from its own at blocks of S alone, until the last operations. -/
theorem wp_region_fin {id : Nat} {a : Act} {w : World} (S : Nat → Prop) (bs : List (List Nat × Nat)) (tail xs : List Nat) (hm : P.follows .mixedOrders = true) (hs : Region.noSelect ops = true)
    (hB : (decide ((blocks bs tail).length + xs.length ≤ ops.size) && bs.all (fun b => decide (b.2 < ops.size)) && schedX ops xs (blocks bs tail) (Array.replicate ops.size false)) = true)
    (h : wpBlocksX P ops (NoPanic Q) (fun w1 => ∃ x : ChgSW S w, w1 = x.w') xs bs tail a w.drew) : (Code.region id ops true).wp P Q a w := by
  simp only [Bool.and_eq_true, List.all_eq_true] at hB
  obtain ⟨⟨h1, h2⟩, h3⟩ := hB
  refine wp_region_noPanic ?_
  exact wp_region_any hm (wpAny_of_X _ _ _ _ (wpAnyX_sched (C := fun w1 => ∃ x : ChgSW S w, w1 = x.w') hs (fun _ _ _ _ _ h => h) xs (blocks bs tail) _ _ _ _ (of_decide_eq_true h1) (Closed.start _) h3 ⟨⟨_, Chg.ofExt (Ext.refl w).drew⟩, rfl⟩ (wpSchedX_blocks bs tail (fun b hb => of_decide_eq_true (h2 b hb)) a w.drew h)))
end
end Go.Proofs.Ytcpfmhgfaliemaa
