/- Appending to an empty literal row makes new memory or nothing. No condition but the bound on the row's length. -/
import Derived.Test.YtkolfiedakojoaaBlk
import Derived.ArgAppend
namespace Go.Proofs.Ytkolfiedakojoaa
open Go.ChangeShapes Go.WideShapes Go.ChangeAt Go.RowKit Go.Deep

section
variable {P : Program} {w : World} {ops : Array Oper} {rest : List Oper} {o : Oper} {a : Act} {Q : Exit → Act → World → Prop}
theorem appE {t e : TypeId} {n bytes : Nat} (E : Elem P t e n bytes) {α : Type} {f : α → List Value} (hf : ∀ a, (f a).length = n) (h1 : ∀ b, ∀ u ∈ f b, u.oneCell' = true) (hgd : o.guard = none) (s x : Operand)
    (ho : o.op = .call { callee := .builtin .append, args := #[s, x], argTypes := #[t, t] }) {base g : Nat} {vs : Value} (src : List α) (hs : a.eval s = .slice (some ⟨g, 0, none⟩) 0 0) (hown : OwnF f n base e w (.slice (some ⟨g, 0, none⟩) 0 0) [])
    (hx : a.eval x = vs) (hsrc : RdS (Rep.flat n f hf) w vs src) (hl : src.length * bytes ≤ 140737488355328) (hm : src.length ≤ maxLen) (hbase : base ≤ w.heap.size)
    (h : ∀ v' w', OwnF f n base e w' v' src → Ext w w' → wpList P ops Q rest (a.put o.dst v') w') : wpList P ops Q (o :: rest) a w := by
  obtain ⟨oa, cap, rfl, hc1, hc2, hn0, hel⟩ := hsrc
  cases oa with
  | none =>
    have hnil : src = [] := by
      cases src with
      | nil => rfl
      | cons b src => obtain ⟨_, _, _, he, _⟩ := hel 0 (by simp); cases he
    subst hnil
    obtain rfl := hn0 rfl
    refine wpList_append_own_none hgd s x t ho base e E.i n E.ht E.hi _ 0 [] hs hown hx ?_
    exact h _ w hown (Ext.refl _)
  | some ad =>
    refine wpList_append_arg w hgd s x t ho e E.i E.z n bytes E.ht E.hi E.hz E.hsize E.hby E.hzs E.hpos g 0 0 0 [] hs (by simp) (by simp) ad src.length cap (src.flatMap f) hx (flatMap_len hf src) ?_ ?_ ?_ (by simpa using hm) (by simpa using hl) ?_ ?_
    · intro j u hu
      have hjl : j < src.length * n := by rw [← flatMap_len hf src]; exact (List.getElem?_eq_some_iff.1 hu).1
      have hk : j / n < src.length := by rw [Nat.div_lt_iff_lt_mul E.hpos]; exact hjl
      have hr := Nat.mod_lt j E.hpos
      obtain ⟨b, off, cs, hb, hcell, rfl⟩ := hel (j / n) hk
      cases hb
      have hfm := flatMap_at hf src (j / n) hk (j % n) hr
      have hdm : j / n * n + j % n = j := by rw [Nat.mul_comm]; exact Nat.div_add_mod j n
      rw [hdm, hu] at hfm
      have := hcell (j % n) u hfm.symm
      have hadd : (⟨b, off, none⟩ : Addr).add j = ⟨b, off + j, none⟩ := by unfold Addr.add; split <;> simp_all
      rw [hadd]
      rw [← this]
      show _ = w.cell? ⟨b, off + j / n * n + j % n, none⟩
      rw [Nat.add_assoc, hdm]
    · intro u hu
      obtain ⟨b, _, hb⟩ := List.mem_flatMap.1 hu
      exact h1 b u hb
    · intro hr j hj
      rw [flatMap_len hf] at hj
      have : src.length = 0 := by omega
      rw [this] at hj; omega
    · intro hr
      have h0 : src = [] := List.eq_nil_of_length_eq_zero (by omega)
      subst h0
      exact h _ w hown (Ext.refl _)
    · intro hr v' w' o' g'
      refine h v' w' ?_ (Ext.grownNone (Ext.refl _) g')
      have o2 : OwnF f n w.heap.size e w' v' src := by
        unfold OwnF
        simpa using o'
      exact o2.mono hbase
end
end Go.Proofs.Ytkolfiedakojoaa
