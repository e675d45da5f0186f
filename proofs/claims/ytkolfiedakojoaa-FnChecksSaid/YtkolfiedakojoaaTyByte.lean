/- Slices of uint8: how they read, and the contracts of the laws' helper functions over them. No condition but the bounds that each theorem names. -/
import Derived.Test.YtkolfiedakojoaaApp
namespace Go.Proofs.Ytkolfiedakojoaa
open Go.ChangeShapes Go.WideShapes Go.ChangeAt Go.RowKit Go.Deep

def byteF (n : Int) : List Value := [.int .u8 n]
theorem byteFlen (n : Int) : (byteF n).length = 1 := rfl
theorem byteOne (n : Int) : ∀ u ∈ byteF n, u.oneCell' = true := by
  intro u hu
  simp only [byteF, List.mem_cons, List.not_mem_nil, or_false] at hu
  rw [hu]; rfl
theorem bytes_rep {base : Nat} {e : TypeId} {w : World} {v : Value} {l : List Int} (h : OwnF byteF 1 base e w v l) : RdS Rep.byte w v l := OwnF.rd (hf := byteFlen) h
theorem bytes_at {w : World} {o : Option Addr} {m cap : Nat} {l : List Int} (h : RdS Rep.byte w (.slice o m cap) l) (k : Nat) (hk : k < l.length) :
    ∃ b off, o = some ⟨b, off, none⟩ ∧ w.cell? ⟨b, off + k, none⟩ = some (.int .u8 l[k]) := by
  obtain ⟨b, off, ho, hc⟩ := RdS.at_flat h k hk
  exact ⟨b, off, ho, by simpa using hc 0 _ rfl⟩
theorem bytes_own_at {base : Nat} {e : TypeId} {w : World} {g m cap : Nat} {l : List Int} (h : OwnF byteF 1 base e w (.slice (some ⟨g, 0, none⟩) m cap) l) (k : Nat) (hk : k < l.length) :
    w.cell? ⟨g, k, none⟩ = some (.int .u8 l[k]) := by
  have hc := OwnF.cells_flat byteFlen h k hk
  simpa using hc 0 _ rfl
theorem bytes_sets {l : List Int} {k : Nat} (x : Int) : (l.flatMap byteF).set k (.int .u8 x) = (l.set k x).flatMap byteF := by
  induction l generalizing k with
  | nil => simp
  | cons a l ih =>
    cases k with
    | zero => rfl
    | succ k =>
      have := ih (k := k)
      simp only [List.flatMap_cons, List.set_cons_succ, ← this, byteF]
      rfl
theorem bytes_own_set {base : Nat} {e : TypeId} {w : World} {g m cap : Nat} {l : List Int} (h : OwnF byteF 1 base e w (.slice (some ⟨g, 0, none⟩) m cap) l) (k : Nat) (x : Int) :
    OwnF byteF 1 base e (w.setCell ⟨g, k, none⟩ (.int .u8 x)) (.slice (some ⟨g, 0, none⟩) m cap) (l.set k x) ∧ w.grownBy (w.setCell ⟨g, k, none⟩ (.int .u8 x)) (some g) := by
  obtain rfl := h.len
  obtain ⟨h0, g0⟩ := World.ownsRow.stored h k (.int .u8 x)
  rw [bytes_sets] at h0
  refine ⟨?_, g0⟩
  unfold OwnF
  rw [List.length_set]
  exact h0
theorem Try.infoByte : (Try.prog.info? 5).map (fun i => (i.zero, i.size, i.bytes)) = some (some (.int .u8 0), 1, 1) := by kernel_rfl
theorem elemByte : Nonempty (Elem Try.prog 22 5 1 1) := Elem.mk' Try.underlying22 Try.infoByte rfl (by decide)
theorem opensBytes : Opens Try.prog 22 Rep.byte.slice (fun l => ∀ x ∈ l, U8 x) := opens_slice Try.underlying22 (by kernel_rfl) (by decide) (opens_byte Try.underlying5)


def byteMk (k : Int) : Int := k % 256

end Go.Proofs.Ytkolfiedakojoaa
