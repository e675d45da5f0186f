/- Appending to rows whose elements hold slices, where the row owns any set of blocks: one element, and a whole row. No condition but the bound on the row's length. -/
import Derived.Test.YtpeipodehflmaaaAppN
namespace Go.Proofs.Ytpeipodehflmaaa
open Go.ChangeShapes Go.WideShapes Go.ChangeAt Go.RowKit Go.Deep

section
variable {P : Program} {w : World} {ops : Array Oper} {rest : List Oper} {o : Oper} {a : Act} {Q : Exit → Act → World → Prop}
/-- append(out, src...), and where the new row lies; what the cells are is asked of src alone. -/
theorem appSp {t e : TypeId} {n bytes : Nat} (E : Elem P t e n bytes) {α : Type} {f : α → List Value} (hf : ∀ a, (f a).length = n) (hgd : o.guard = none) (s x : Operand)
    (ho : o.op = .call { callee := .builtin .append, args := #[s, x], argTypes := #[t, t] }) {base : Nat} {v vs : Value} {l : List α} (src : List α) (h1 : ∀ b ∈ src, ∀ u ∈ f b, u.oneCell' = true) (hs : a.eval s = v) (hown : OwnF f n base e w v l)
    (hx : a.eval x = vs) (hsrc : RdS (Rep.flat n f hf) w vs src)
    (hl : (l.length + src.length) * bytes ≤ 140737488355328) (hm : l.length + src.length ≤ maxLen) (hbase : base ≤ w.heap.size)
    (h : ∀ v' w', OwnF f n base e w' v' (l ++ src) → w.grownBy w' v.ownBlock → (v'.ownBlock = v.ownBlock ∨ v'.ownBlock = some w.heap.size) → wpList P ops Q rest (a.put o.dst v') w') : wpList P ops Q (o :: rest) a w := by
  obtain ⟨oa, cap, rfl, hc1, hc2, hn0, hel⟩ := hsrc
  cases oa with
  | none =>
    have hnil : src = [] := by
      cases src with
      | nil => rfl
      | cons b src => obtain ⟨_, _, _, he, _⟩ := hel 0 (by simp); cases he
    subst hnil
    obtain rfl := hn0 rfl
    refine wpList_append_own_none hgd s x t ho base e E.i n E.ht E.hi v l.length (l.flatMap f) hs hown hx ?_
    refine h v w ?_ (World.grownBy.refl _ _) (.inl rfl)
    rw [List.append_nil]
    exact hown
  | some ad =>
    refine wpList_append_own_at w hgd s x t ho base e E.i E.z n bytes E.ht E.hi E.hz E.hsize E.hby E.hzs E.hpos v l.length (l.flatMap f) hs hown ad src.length cap (src.flatMap f) hx (flatMap_len hf src) ?_ ?_ hm hl hbase ?_
    · intro j u hu
      have hjl : j < src.length * n := by rw [← flatMap_len hf src]; exact (List.getElem?_eq_some_iff.1 hu).1
      have hk : j / n < src.length := by rw [Nat.div_lt_iff_lt_mul E.hpos]; exact hjl
      have hr := Nat.mod_lt j E.hpos
      obtain ⟨b, off, cs, hb, hcell, rfl⟩ := hel (j / n) hk
      cases hb
      have hfm := flatMap_at hf src (j / n) hk (j % n) hr
      have hdm : j / n * n + j % n = j := by rw [Nat.mul_comm]; exact Nat.div_add_mod j n
      rw [hdm, hu] at hfm
      have := hcell (j % n) u hfm.symm
      have hadd : (⟨b, off, none⟩ : Addr).add j = ⟨b, off + j, none⟩ := by unfold Addr.add; split <;> simp_all
      rw [hadd]
      rw [← this]
      show _ = w.cell? ⟨b, off + j / n * n + j % n, none⟩
      rw [Nat.add_assoc, hdm]
    · intro u hu
      obtain ⟨b, hm', hb⟩ := List.mem_flatMap.1 hu
      exact h1 b hm' u hb
    · intro v' w' ho' hg _ hat
      refine h v' w' ?_ hg hat
      unfold OwnF
      rw [List.length_append, List.flatMap_append]
      exact ho'
variable {α β : Type} {n : Nat} {c : α → Value → List Value} {hc : ∀ a v, (c a v).length = n} {sub : α → List β} {e : TypeId} {I : Own β}
/-- append(out, x) where x holds a new slice and out owns S. -/
theorem appG {t : TypeId} {bytes : Nat} {S : Nat → Prop} (E : Elem P t e n bytes) (hgd : o.guard = none) (s x : Operand)
    (ho : o.op = .call { callee := .builtin .append, args := #[s, x], argTypes := #[t, t] }) {w0 : World} {v : Value} {l : List α} (b : α) (hv : Value) (T : Nat → Prop)
    (h1 : ∀ u ∈ c b hv, u.oneCell' = true) (hs : a.eval s = v) (hown : (Own.nest n c hc sub e I).own S w0 v l) (hx0 : Ext w0 w) (hi : I.own T w hv (sub b)) (hT : ∀ q, T q → w0.heap.size ≤ q ∧ q < w.heap.size)
    {g cp : Nat} (hx : a.eval x = .slice (some ⟨g, 0, none⟩) 1 cp) (hnews : ∀ j u, (c b hv)[j]? = some u → w.cell? ⟨g, j, none⟩ = some u)
    (hl : (l.length + 1) * bytes ≤ 140737488355328) (hm : l.length + 1 ≤ maxLen)
    (h : ∀ v' w', (Own.nest n c hc sub e I).own (fun q => S q ∨ (w0.heap.size ≤ q ∧ q < w'.heap.size)) w' v' (l ++ [b]) → w.grownBy w' v.ownBlock → (∀ q, v.ownBlock = some q → S q) → wpList P ops Q rest (a.put o.dst v') w') : wpList P ops Q (o :: rest) a w := by
  obtain ⟨qs, hq, hoq, hS, hqq, hd⟩ := hown
  have hlq : qs.length = l.length := by rw [← hq, List.length_map]
  refine app1p E (f := capF c) (fun q : Cap α => hc q.dat q.val) hgd s x ho (⟨b, hv, T⟩ : Cap α) h1 hs (hoq.ext hx0) hx hnews (by rw [hlq]; exact hl) (by rw [hlq]; exact hm) (Nat.zero_le _) ?_
  intro v' w' ho' hg hat
  refine h v' w' ?_ hg hS
  refine nest_push (S := S) (T := T) qs b hv hq hS hqq hd (fun k hk => (hoq.block k hk).2) hx0 hi (fun q hTq => ⟨.inr ⟨(hT q hTq).1, Nat.lt_of_lt_of_le (hT q hTq).2 hg.size⟩, (hT q hTq).1, (hT q hTq).2⟩) (fun q hq => .inl hq) hg ?_ ho'
  rcases hat with h2 | h2
  · exact .inl h2
  · exact .inr ⟨_, h2, Nat.le_refl _, .inr ⟨hx0.size, (ho'.block _ h2).2⟩⟩
/-- append(out, src...) where both rows hold slices; they share no block. -/
theorem appGS {t : TypeId} {bytes : Nat} {S S2 : Nat → Prop} (E : Elem P t e n bytes) (hgd : o.guard = none) (s x : Operand)
    (ho : o.op = .call { callee := .builtin .append, args := #[s, x], argTypes := #[t, t] }) {v vs : Value} {l src : List α}
    (h1 : ∀ (b : α) (oo : Option Addr) (m k : Nat), ∀ u ∈ c b (.slice oo m k), u.oneCell' = true) (hs : a.eval s = v) (hown : (Own.nest n c hc sub e I).own S w v l) (hx : a.eval x = vs) (hsrc : (Own.nest n c hc sub e I).own S2 w vs src) (hdis : ∀ b, S b → ¬ S2 b)
    (hl : (l.length + src.length) * bytes ≤ 140737488355328) (hm : l.length + src.length ≤ maxLen)
    (h : ∀ v' w', (Own.nest n c hc sub e I).own (fun q => (S q ∨ S2 q) ∨ (w.heap.size ≤ q ∧ q < w'.heap.size)) w' v' (l ++ src) → w.grownBy w' v.ownBlock → (∀ q, v.ownBlock = some q → S q) → wpList P ops Q rest (a.put o.dst v') w') : wpList P ops Q (o :: rest) a w := by
  obtain ⟨qs, hq, hoq, hS, hqq, hd⟩ := hown
  obtain ⟨qs2, hq2, hoq2, hS2, hqq2, hd2⟩ := hsrc
  have hlq : qs.length = l.length := by rw [← hq, List.length_map]
  have hlq2 : qs2.length = src.length := by rw [← hq2, List.length_map]
  have hf : ∀ q : Cap α, (capF c q).length = n := fun q : Cap α => hc q.dat q.val
  refine appSp E (f := capF c) hf hgd s x ho qs2 (fun q hqm u hu => ?_) hs hoq hx (OwnF.rd (hf := hf) hoq2) (by rw [hlq, hlq2]; exact hl) (by rw [hlq, hlq2]; exact hm) (Nat.zero_le _) ?_
  · obtain ⟨oo, k, hv, _⟩ := (I.rd (hqq2 q hqm).1).shape
    unfold capF at hu
    rw [hv] at hu
    exact h1 _ _ _ _ u hu
  intro v' w' ho' hg hat
  refine h v' w' ?_ hg hS
  have hch : Chg (fun b => v.ownBlock = some b) w w' := Chg.ofGrown hg (fun k hk => hk)
  have hne : ∀ b, b < w.heap.size → v.ownBlock ≠ some b → v'.ownBlock ≠ some b := by
    intro b hb hn
    rcases hat with h1 | h1
    · rw [h1]; exact hn
    · rw [h1]; intro e; cases e; omega
  have hn2 : ∀ b, S2 b → v.ownBlock ≠ some b := fun b hb e => hdis b (hS b e) hb
  refine ⟨qs ++ qs2, by rw [List.map_append, hq, hq2], ho', fun k hk => ?_, fun q hqm => ?_, fun i j hi' hj' hne' b hbi => ?_⟩
  · rcases hat with h1 | h1
    · rw [h1] at hk; exact .inl (.inl (hS k hk))
    · rw [h1] at hk; cases hk; exact .inr ⟨Nat.le_refl _, (ho'.block _ h1).2⟩
  · rcases List.mem_append.1 hqm with h1 | h1
    · obtain ⟨a1, a2⟩ := hqq q h1
      refine ⟨I.kept a1 hch (fun b hb => (a2 b hb).2.1), fun b hb => ?_⟩
      obtain ⟨x1, x2, x3⟩ := a2 b hb
      exact ⟨.inl (.inl x1), hne b x3 x2, Nat.lt_of_lt_of_le x3 hch.size⟩
    · obtain ⟨a1, a2⟩ := hqq2 q h1
      refine ⟨I.kept a1 hch (fun b hb => hn2 b (a2 b hb).1), fun b hb => ?_⟩
      obtain ⟨x1, x2, x3⟩ := a2 b hb
      exact ⟨.inl (.inr x1), hne b x3 (hn2 b x1), Nat.lt_of_lt_of_le x3 hch.size⟩
  · simp only [List.length_append] at hi' hj'
    rcases Nat.lt_or_ge i qs.length with e1 | e1
    · rw [List.getElem_append_left e1] at hbi
      rcases Nat.lt_or_ge j qs.length with e2 | e2
      · rw [List.getElem_append_left e2]; exact hd i j e1 e2 hne' b hbi
      · rw [List.getElem_append_right e2]
        intro h3
        exact hdis b ((hqq qs[i] (List.getElem_mem _)).2 b hbi).1 ((hqq2 _ (List.getElem_mem _)).2 b h3).1
    · rw [List.getElem_append_right e1] at hbi
      rcases Nat.lt_or_ge j qs.length with e2 | e2
      · rw [List.getElem_append_left e2]
        intro h3
        exact hdis b ((hqq qs[j] (List.getElem_mem _)).2 b h3).1 ((hqq2 _ (List.getElem_mem _)).2 b hbi).1
      · rw [List.getElem_append_right e2]
        exact hd2 _ _ (by omega) (by omega) (by omega) b hbi
end
end Go.Proofs.Ytpeipodehflmaaa
