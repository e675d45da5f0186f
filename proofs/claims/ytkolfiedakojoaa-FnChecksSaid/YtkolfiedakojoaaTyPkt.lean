/- The data of packets, how they read, what they own, and the contracts of the laws' helper functions over them. No condition but the bounds that each theorem names. -/
import Derived.Test.YtkolfiedakojoaaTyPartM
import Derived.Test.YtkolfiedakojoaaTyByte
namespace Go.Proofs.Ytkolfiedakojoaa
open Go.ChangeShapes Go.WideShapes Go.ChangeAt Go.RowKit Go.Deep

theorem blk10 {w : World} {b : Nat} {x0 x1 x2 x3 x4 x5 x6 x7 x8 x9 : Value} {t : TypeId} {f : Nat × Nat} (h : w.heap[b]? = some (.cells #[x0, x1, x2, x3, x4, x5, x6, x7, x8, x9] t f)) :
    w.cell? ⟨b, 0, none⟩ = some x0 ∧ w.cell? ⟨b, 1, none⟩ = some x1 ∧ w.cell? ⟨b, 2, none⟩ = some x2 ∧ w.cell? ⟨b, 3, none⟩ = some x3 ∧ w.cell? ⟨b, 4, none⟩ = some x4 ∧ w.cell? ⟨b, 5, none⟩ = some x5 ∧ w.cell? ⟨b, 6, none⟩ = some x6 ∧ w.cell? ⟨b, 7, none⟩ = some x7 ∧ w.cell? ⟨b, 8, none⟩ = some x8 ∧ w.cell? ⟨b, 9, none⟩ = some x9 :=
  ⟨blk_cell h 0, blk_cell h 1, blk_cell h 2, blk_cell h 3, blk_cell h 4, blk_cell h 5, blk_cell h 6, blk_cell h 7, blk_cell h 8, blk_cell h 9⟩
theorem len10 {α : Type} : ∀ {cs : List α}, cs.length = 10 → ∃ a0 a1 a2 a3 a4 a5 a6 a7 a8 a9, cs = [a0, a1, a2, a3, a4, a5, a6, a7, a8, a9]
  | [a0, a1, a2, a3, a4, a5, a6, a7, a8, a9], _ => ⟨a0, a1, a2, a3, a4, a5, a6, a7, a8, a9, rfl⟩
theorem Chg.setCell {S : Nat → Prop} {a b : World} (h : Chg S a b) {p : Addr} (hp : S p.block) (u : Value) : Chg S a (b.setCell p u) :=
  h.trans ⟨rfl, rfl, rfl, by simp, fun k _ hn => Below.heap_setCell _ _ _ _ (fun e => hn (by rw [e]; exact hp))⟩
structure Pkt where
  kind : Int
  src : Int
  dst : Int
  path : Pth
  pi : Int
  hi : Int
  beta : Int
  rid : Int
  seq : Int
  pay : List Int
  deriving DecidableEq
def Pkt.c (x : Pkt) (h0 h1 : Value) : List Value := [.int .i64 x.kind, .int .i64 x.src, .int .i64 x.dst, h0, .int .i64 x.pi, .int .i64 x.hi, .int .i64 x.beta, .int .i64 x.rid, .int .i64 x.seq, h1]
def Pkt.size (x : Pkt) : Nat := x.path.size + x.pay.length
def Pkt.rep : Rep Pkt where
  cells := 10
  rd w cs x := ∃ v0 v1, cs = [.int .i64 x.kind, .int .i64 x.src, .int .i64 x.dst, v0, .int .i64 x.pi, .int .i64 x.hi, .int .i64 x.beta, .int .i64 x.rid, .int .i64 x.seq, v1] ∧ RdS Part.rep w v0 x.path.parts ∧ RdS Rep.byte w v1 x.pay
  len := by rintro w cs a ⟨v0, v1, rfl, _⟩; rfl
  ext := by rintro w w' cs a e ⟨v0, v1, rfl, h0, h1⟩; exact ⟨v0, v1, rfl, h0.ext e, h1.ext e⟩
def Pkt.ok (x : Pkt) : Prop := I64 x.kind ∧ I64 x.src ∧ I64 x.dst ∧ x.path.ok ∧ I64 x.pi ∧ I64 x.hi ∧ I64 x.beta ∧ I64 x.rid ∧ I64 x.seq ∧ ∀ y ∈ x.pay, U8 y
end Go.Proofs.Ytkolfiedakojoaa
