/- Slices of int: how they read, and the contracts of the laws' helper functions over them. No condition but the bounds that each theorem names. -/
import Derived.Test.YtkolfiedakojoaaApp
namespace Go.Proofs.Ytkolfiedakojoaa
open Go.ChangeShapes Go.WideShapes Go.ChangeAt Go.RowKit Go.Deep

def intF (n : Int) : List Value := [.int .i64 n]
theorem intFlen (n : Int) : (intF n).length = 1 := rfl
theorem intOne (n : Int) : ∀ u ∈ intF n, u.oneCell' = true := by
  intro u hu
  simp only [intF, List.mem_cons, List.not_mem_nil, or_false] at hu
  rw [hu]; rfl
theorem ints_rep {base : Nat} {e : TypeId} {w : World} {v : Value} {l : List Int} (h : OwnF intF 1 base e w v l) : RdS Rep.int w v l := OwnF.rd (hf := intFlen) h
theorem ints_at {w : World} {o : Option Addr} {m cap : Nat} {l : List Int} (h : RdS Rep.int w (.slice o m cap) l) (k : Nat) (hk : k < l.length) :
    ∃ b off, o = some ⟨b, off, none⟩ ∧ w.cell? ⟨b, off + k, none⟩ = some (.int .i64 l[k]) := by
  obtain ⟨b, off, ho, hc⟩ := RdS.at_flat h k hk
  exact ⟨b, off, ho, by simpa using hc 0 _ rfl⟩
theorem ints_own_at {base : Nat} {e : TypeId} {w : World} {g m cap : Nat} {l : List Int} (h : OwnF intF 1 base e w (.slice (some ⟨g, 0, none⟩) m cap) l) (k : Nat) (hk : k < l.length) :
    w.cell? ⟨g, k, none⟩ = some (.int .i64 l[k]) := by
  have hc := OwnF.cells_flat intFlen h k hk
  simpa using hc 0 _ rfl
theorem ints_sets {l : List Int} {k : Nat} (x : Int) : (l.flatMap intF).set k (.int .i64 x) = (l.set k x).flatMap intF := by
  induction l generalizing k with
  | nil => simp
  | cons a l ih =>
    cases k with
    | zero => rfl
    | succ k =>
      have := ih (k := k)
      simp only [List.flatMap_cons, List.set_cons_succ, ← this, intF]
      rfl
theorem ints_own_set {base : Nat} {e : TypeId} {w : World} {g m cap : Nat} {l : List Int} (h : OwnF intF 1 base e w (.slice (some ⟨g, 0, none⟩) m cap) l) (k : Nat) (x : Int) :
    OwnF intF 1 base e (w.setCell ⟨g, k, none⟩ (.int .i64 x)) (.slice (some ⟨g, 0, none⟩) m cap) (l.set k x) ∧ w.grownBy (w.setCell ⟨g, k, none⟩ (.int .i64 x)) (some g) := by
  obtain rfl := h.len
  obtain ⟨h0, g0⟩ := World.ownsRow.stored h k (.int .i64 x)
  rw [ints_sets] at h0
  refine ⟨?_, g0⟩
  unfold OwnF
  rw [List.length_set]
  exact h0
theorem Try.infoInt : (Try.prog.info? 3).map (fun i => (i.zero, i.size, i.bytes)) = some (some (.int .i64 0), 1, 8) := by kernel_rfl
theorem elemInt : Nonempty (Elem Try.prog 44 3 1 8) := Elem.mk' Try.underlying44 Try.infoInt rfl (by decide)
theorem opensInts : Opens Try.prog 44 Rep.int.slice (fun l => ∀ x ∈ l, I64 x) := opens_slice Try.underlying44 (by kernel_rfl) (by decide) (opens_int Try.underlying3)


def intMk (k : Int) : Int := k

end Go.Proofs.Ytkolfiedakojoaa
