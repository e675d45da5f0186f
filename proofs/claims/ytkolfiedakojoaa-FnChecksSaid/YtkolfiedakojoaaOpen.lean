/- From the row's reading of an argument to data: integers, bools, structs, slices, to any depth. No condition. -/
import Derived.Test.YtkolfiedakojoaaRep
namespace Go.Proofs.Ytkolfiedakojoaa
open Go.ChangeShapes Go.WideShapes Go.ChangeAt Go.RowKit Go.Deep

/-- A number of Go's int. -/
def I64 (n : Int) : Prop := -9223372036854775808 ≤ n ∧ n ≤ 9223372036854775807
/-- A byte. -/
def U8 (n : Int) : Prop := 0 ≤ n ∧ n ≤ 255

/-- What the row's reading of type t finds in a row of cells reads as a datum, which is sound. -/
def Opens {α : Type} (P : Program) (t : TypeId) (r : Rep α) (ok : α → Prop) : Prop :=
  ∀ {H : Type} {enc : TypeId × Value → H} {w : World} {base : Nat} {spare : Nat → Bool} {held : Bool} {fuel : Nat} {cs : List Value} {x : DataW H × List MemPlace},
    DataW.trod enc P w base spare held fuel t cs = some x → ∃ a, r.rd w cs a ∧ ok a

theorem opens_int {P : Program} {t : TypeId} (ht : P.underlying t = some (.int .i64)) : Opens P t Rep.int I64 := by
  intro H enc w base spare held fuel cs x h
  obtain ⟨n, rfl, _, hw⟩ := DataW.trod_int ht h
  exact ⟨n, rfl, by unfold I64; simpa [Lit.wf, IntKind.min, IntKind.max, IntKind.signed, IntKind.bits] using hw⟩

theorem opens_byte {P : Program} {t : TypeId} (ht : P.underlying t = some (.int .u8)) : Opens P t Rep.byte U8 := by
  intro H enc w base spare held fuel cs x h
  obtain ⟨n, rfl, _, hw⟩ := DataW.trod_int ht h
  exact ⟨n, rfl, by unfold U8; simpa [Lit.wf, IntKind.min, IntKind.max, IntKind.signed, IntKind.bits] using hw⟩

theorem opens_bool {P : Program} {t : TypeId} (ht : P.underlying t = some .bool) : Opens P t Rep.bool (fun _ => True) := by
  intro H enc w base spare held fuel cs x h
  obtain ⟨b, rfl, _⟩ := DataW.trod_bool ht h
  exact ⟨b, rfl, trivial⟩

theorem opens_slice {α : Type} {P : Program} {t e : TypeId} {r : Rep α} {ok : α → Prop} (ht : P.underlying t = some (.slice e)) (hc : P.cellsOf e = r.cells) (hp : 0 < r.cells) (he : Opens P e r ok) :
    Opens P t r.slice (fun l => ∀ x ∈ l, ok x) := by
  intro H enc w base spare held fuel cs x h
  rcases open_slice ht h with ⟨rfl, _⟩ | ⟨a, len, cap, m, n, D, Pl, rfl, hb, hl, hm, hmm, hx, hi⟩
  · exact ⟨[], ⟨_, rfl, RdS.nil _ _⟩, by simp⟩
  · have hlm : len ≤ m := by rw [hmm]; split <;> omega
    have hel : ∀ i : Fin len, ∃ (y : α) (cs' : List Value), (∀ j, j < r.cells → w.cell? ((a.add (i.val * r.cells)).add j) = cs'[j]?) ∧ r.rd w cs' y ∧ ok y := by
      intro i
      obtain ⟨cs', hc', ht'⟩ := hi i (by omega)
      obtain ⟨y, hy, hk⟩ := he ht'
      rw [hc] at hc'
      exact ⟨y, cs', (World.cells?_some hc').2.2, hy, hk⟩
    have hch : ∃ F : Fin len → α, ∀ i : Fin len, ∃ cs' : List Value, (∀ j, j < r.cells → w.cell? ((a.add (i.val * r.cells)).add j) = cs'[j]?) ∧ r.rd w cs' (F i) ∧ ok (F i) := ⟨fun i => (hel i).choose, fun i => (hel i).choose_spec⟩
    obtain ⟨F, hF⟩ := hch
    refine ⟨List.ofFn F, ⟨_, rfl, some a, cap, by simp, by simpa using hl, hm, (fun e => by cases e), fun i hi' => ?_⟩, ?_⟩
    · have hil : i < len := by simpa using hi'
      obtain ⟨cs', hc', hr', _⟩ := hF ⟨i, hil⟩
      obtain ⟨b, off, sp⟩ := a
      have hsp : sp = none := by
        have h0 : 0 < len := by omega
        obtain ⟨cs0, hc0, hr0, _⟩ := hF ⟨0, h0⟩
        have h1 := hc0 0 hp
        simp only [Nat.zero_mul, Addr.add, if_true] at h1
        have hl0 := r.len hr0
        rw [List.getElem?_eq_getElem (by omega)] at h1
        cases sp with
        | none => rfl
        | some s =>
          simp only [World.cell?] at h1
          split at h1 <;> simp at h1
      subst hsp
      refine ⟨b, off, cs', rfl, fun j u hj => ?_, by simpa using hr'⟩
      have hjl : j < r.cells := by rw [← r.len hr']; exact (List.getElem?_eq_some_iff.1 hj).1
      have := hc' j hjl
      rw [hj] at this
      rw [← this]
      have hadd : ∀ (o k : Nat), (⟨b, o, none⟩ : Addr).add k = ⟨b, o + k, none⟩ := fun o k => by unfold Addr.add; split <;> simp_all
      rw [hadd, hadd]
    · intro x hx
      obtain ⟨i, rfl⟩ := List.mem_ofFn.1 hx
      exact (hF i).choose_spec.2.2

section
variable {H : Type} {enc : TypeId × Value → H} {P : Program} {W : World} {base : Nat} {spare : Nat → Bool} {held : Bool}

theorem arg_slice {α : Type} {rc : Reach} {b : Nat} {t e : TypeId} {v : Value} {d : DataW H} {p : List MemPlace} {r : Rep α} {ok : List α → Prop} (ht : P.underlying t = some (.slice e)) (hv : Value.okWide P W rc b t v) (ho : Opens P t r.slice ok)
    (h : DataW.Trod enc P W base spare held t v d p) : ∃ l, RdS r W v l ∧ ok l := by
  obtain ⟨a, len, cap, rfl⟩ := okWide_slice ht hv
  obtain ⟨fuel, hf⟩ := h
  obtain ⟨l, ⟨v', hv', hr⟩, hk⟩ := ho hf
  simp [Value.cells] at hv'
  subst hv'
  exact ⟨l, hr, hk⟩

theorem arg_int {rc : Reach} {b : Nat} {t : TypeId} {v : Value} {d : DataW H} {p : List MemPlace} (ht : P.underlying t = some (.int .i64)) (hv : Value.okWide P W rc b t v)
    (h : DataW.Trod enc P W base spare held t v d p) : ∃ n, v = .int .i64 n ∧ I64 n := by
  obtain ⟨n, rfl⟩ := okWide_int ht hv
  obtain ⟨fuel, hf⟩ := h
  obtain ⟨n', hv', hk⟩ := opens_int ht hf
  simp only [Rep.int, Rep.flat, Value.cells] at hv'
  cases hv'
  exact ⟨n, rfl, hk⟩

theorem arg_bool {rc : Reach} {b : Nat} {t : TypeId} {v : Value} (ht : P.underlying t = some .bool) (hv : Value.okWide P W rc b t v) : ∃ n, v = .bool n := okWide_bool ht hv

theorem arg_struct {α : Type} {rc : Reach} {b : Nat} {t : TypeId} {fs : Array Field} {v : Value} {d : DataW H} {p : List MemPlace} {r : Rep α} {ok : α → Prop} (ht : P.underlying t = some (.struct fs)) (hv : Value.okWide P W rc b t v) (ho : Opens P t r ok)
    (h : DataW.Trod enc P W base spare held t v d p) : ∃ (cs : List Value) (a : α), v = .agg cs.toArray ∧ r.rd W cs a ∧ ok a := by
  obtain ⟨cs, rfl, _⟩ := okWide_struct ht hv
  obtain ⟨fuel, hf⟩ := h
  obtain ⟨a, hr, hk⟩ := ho hf
  exact ⟨cs.toList, a, by simp, hr, hk⟩
end

theorem len1 {α : Type} {cs : List α} (h : cs.length = 1) : ∃ a, cs = [a] := List.length_eq_one_iff.1 h
theorem len2 {α : Type} : ∀ {cs : List α}, cs.length = 2 → ∃ a b, cs = [a, b]
  | [a, b], _ => ⟨a, b, rfl⟩
theorem len3 {α : Type} : ∀ {cs : List α}, cs.length = 3 → ∃ a b c, cs = [a, b, c]
  | [a, b, c], _ => ⟨a, b, c, rfl⟩
theorem len4 {α : Type} : ∀ {cs : List α}, cs.length = 4 → ∃ a b c d, cs = [a, b, c, d]
  | [a, b, c, d], _ => ⟨a, b, c, d, rfl⟩
theorem len5 {α : Type} : ∀ {cs : List α}, cs.length = 5 → ∃ a b c d e, cs = [a, b, c, d, e]
  | [a, b, c, d, e], _ => ⟨a, b, c, d, e, rfl⟩

end Go.Proofs.Ytkolfiedakojoaa
