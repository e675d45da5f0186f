/- Appending one element that holds a slice of its own to a row of the call's own. No condition but the bound on the row's length. -/
import Derived.Test.YtkolfiedakojoaaOwn
namespace Go.Proofs.Ytkolfiedakojoaa
open Go.ChangeShapes Go.WideShapes Go.ChangeAt Go.RowKit Go.Deep

section
variable {P : Program} {w : World} {ops : Array Oper} {rest : List Oper} {o : Oper} {a : Act} {Q : Exit → Act → World → Prop}
/-- append(out, x), and where the new row lies; what x's cells are is asked of x alone. -/
theorem app1p {t e : TypeId} {n bytes : Nat} (E : Elem P t e n bytes) {α : Type} {f : α → List Value} (hf : ∀ a, (f a).length = n) (hgd : o.guard = none) (s x : Operand)
    (ho : o.op = .call { callee := .builtin .append, args := #[s, x], argTypes := #[t, t] }) {base : Nat} {v : Value} {l : List α} (b : α) (h1 : ∀ u ∈ f b, u.oneCell' = true) (hs : a.eval s = v) (hown : OwnF f n base e w v l)
    {g c : Nat} (hx : a.eval x = .slice (some ⟨g, 0, none⟩) 1 c) (hnews : ∀ j u, (f b)[j]? = some u → w.cell? ⟨g, j, none⟩ = some u)
    (hl : (l.length + 1) * bytes ≤ 140737488355328) (hm : l.length + 1 ≤ maxLen) (hbase : base ≤ w.heap.size)
    (h : ∀ v' w', OwnF f n base e w' v' (l ++ [b]) → w.grownBy w' v.ownBlock → (v'.ownBlock = v.ownBlock ∨ v'.ownBlock = some w.heap.size) → wpList P ops Q rest (a.put o.dst v') w') : wpList P ops Q (o :: rest) a w := by
  refine wpList_append_own_at w hgd s x t ho base e E.i E.z n bytes E.ht E.hi E.hz E.hsize E.hby E.hzs E.hpos v l.length (l.flatMap f) hs hown ⟨g, 0, none⟩ 1 c (f b) hx (by rw [hf, Nat.one_mul]) ?_ h1 hm hl hbase ?_
  · intro j u hu
    have hadd : (⟨g, 0, none⟩ : Addr).add j = ⟨g, j, none⟩ := by unfold Addr.add; split <;> simp_all
    rw [hadd]
    exact hnews j u hu
  · intro v' w' ho' hg _ hat
    refine h v' w' ?_ hg hat
    unfold OwnF
    rw [List.length_append, List.flatMap_append, List.flatMap_cons, List.flatMap_nil, List.append_nil]
    exact ho'
variable {α β : Type} {n : Nat} {c : α → Value → List Value} {hc : ∀ a v, (c a v).length = n} {sub : α → List β} {e : TypeId} {I : Own β}
/-- append(out, x) where x holds a new slice: lo is where the call began. -/
theorem appN {t : TypeId} {bytes lo : Nat} (E : Elem P t e n bytes) (hgd : o.guard = none) (s x : Operand)
    (ho : o.op = .call { callee := .builtin .append, args := #[s, x], argTypes := #[t, t] }) {w0 : World} {v : Value} {l : List α} (b : α) (hv : Value) (T : Nat → Prop)
    (h1 : ∀ u ∈ c b hv, u.oneCell' = true) (hs : a.eval s = v) (hown : (Own.nest n c hc sub e I).own (rng lo w0.heap.size) w0 v l) (hx0 : Ext w0 w) (hi : I.own T w hv (sub b)) (hT : ∀ q, T q → w0.heap.size ≤ q ∧ q < w.heap.size) (hlo : lo ≤ w0.heap.size)
    {g cp : Nat} (hx : a.eval x = .slice (some ⟨g, 0, none⟩) 1 cp) (hnews : ∀ j u, (c b hv)[j]? = some u → w.cell? ⟨g, j, none⟩ = some u)
    (hl : (l.length + 1) * bytes ≤ 140737488355328) (hm : l.length + 1 ≤ maxLen)
    (h : ∀ v' w', (Own.nest n c hc sub e I).own (rng lo w'.heap.size) w' v' (l ++ [b]) → w.grownBy w' v.ownBlock → (∀ q, v.ownBlock = some q → lo ≤ q) → wpList P ops Q rest (a.put o.dst v') w') : wpList P ops Q (o :: rest) a w := by
  obtain ⟨qs, hq, hoq, hS, hqq, hd⟩ := hown
  have hlq : qs.length = l.length := by rw [← hq, List.length_map]
  refine app1p E (f := capF c) (fun q : Cap α => hc q.dat q.val) hgd s x ho (⟨b, hv, T⟩ : Cap α) h1 hs (hoq.ext hx0) hx hnews (by rw [hlq]; exact hl) (by rw [hlq]; exact hm) (Nat.zero_le _) ?_
  intro v' w' ho' hg hat
  refine h v' w' ?_ hg (fun q hq => (hS q hq).1)
  refine nest_push (S := rng lo w0.heap.size) (T := T) qs b hv hq hS hqq hd (fun k hk => (hS k hk).2) hx0 hi (fun q hTq => ⟨⟨Nat.le_trans hlo (hT q hTq).1, Nat.lt_of_lt_of_le (hT q hTq).2 hg.size⟩, (hT q hTq).1, (hT q hTq).2⟩) (fun q hq => ⟨hq.1, Nat.lt_of_lt_of_le hq.2 (Nat.le_trans hx0.size hg.size)⟩) hg ?_ ho'
  rcases hat with h2 | h2
  · exact .inl h2
  · exact .inr ⟨_, h2, Nat.le_refl _, ⟨Nat.le_trans hlo hx0.size, (ho'.block _ h2).2⟩⟩
end
end Go.Proofs.Ytkolfiedakojoaa
