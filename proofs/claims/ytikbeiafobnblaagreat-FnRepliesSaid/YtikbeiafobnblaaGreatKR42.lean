/- What these laws need: FnForwards, FnReplies: A region that draws its order, walked in one order of its own choice: what only looks is taken as soon as it may come up, what makes memory comes up when it alone may. The data of traces, how they read, what they own, and the contracts of the laws' helper functions over them. Ownership of a topology and its marks. -/
import Derived.OrdersHeld
import Derived.Test.YtikbeiafobnblaaGreatKR17
import Derived.Test.YtikbeiafobnblaaGreatKR20
namespace Go.Proofs.YtikbeiafobnblaaGreat
section
open Go.ChangeShapes Go.WideShapes Go.ChangeAt Go.RowKit Go.Deep
section
variable {P : Program} {ops : Array Oper} {Q : Exit → Act → World → Prop} {Rq : Nat → Bool}
/-- Operations that are not wanted. -/
def undefs : List Tmp → Act → Act
  | [], a => a
  | d :: ds, a => undefs ds (a.put (some d) undef)
def skipB (ops : Array Oper) : List Oper → List Tmp → Act → Bool
  | [], [], _ => true
  | o :: l, d :: ds, a => !Region.wanted o (yielded ops a.tmps) && o.dst == some d && skipB ops l ds (a.put (some d) undef)
  | _, _, _ => false
theorem wpList_skips {Q' : Exit → Act → World → Prop} {w : World} : ∀ (l : List Oper) (ds : List Tmp) (a : Act), skipB ops l ds a = true → Q' .normal (undefs ds a) w → wpList P ops Q' l a w
  | [], [], _, _, h => h
  | o :: l, d :: ds, a, hb, h => by
    simp only [skipB, Bool.and_eq_true, Bool.not_eq_true', beq_iff_eq] at hb
    refine wpList_skip hb.1.1 ?_
    rw [hb.1.2]
    exact wpList_skips l ds _ hb.2 h
  | [], _ :: _, _, hb, _ => by cases hb
  | _ :: _, [], _, hb, _ => by cases hb
theorem oneSkip {E : Act → World → Prop} {i : Nat} {rest : Sch} {a : Act} {w : World} (ds : List Tmp) (hb : skipB ops (pick ops [i]) ds a = true) (h : Shut (rest.wp P ops Rq E (undefs ds a) w)) : Shut ((Sch.one i rest).wp P ops Rq E a w) :=
  ⟨wpList_skips _ ds a hb ⟨fun _ => Ext.refl _, h.out⟩⟩
end
end
section
open Go.ChangeShapes Go.WideShapes Go.ChangeAt Go.RowKit Go.Deep
theorem Trc.own_rd2 {S : Nat → Prop} {w : World} {h0 h1 h2 : Value} {x : Trc} (h : Trc.own S w h0 h1 h2 x) : RdS Rep.byte w h2 x.pkt.pay := by
  obtain ⟨S0, S1, _, b, _⟩ := h; exact Pkt.own_rd1 b
end
section
open Go.ChangeShapes Go.WideShapes Go.ChangeAt Go.RowKit Go.Deep
/-- Two rows of different element types share no block. -/
theorem OwnF.apartT {α β : Type} {n m : Nat} {f : α → List Value} {f' : β → List Value} {base base' : Nat} {e e' : TypeId} {w : World} {v v' : Value} {l : List α} {l' : List β} (h : OwnF f n base e w v l) (h' : OwnF f' m base' e' w v' l') (hne : e ≠ e') {b : Nat} (hb : v.ownBlock = some b) : v'.ownBlock ≠ some b := by
  rcases h.2 with ⟨rfl, _⟩ | ⟨g, cap, cur, rfl, _, hg, _⟩
  · simp [Value.ownBlock] at hb
  · have : g = b := by simpa [Value.ownBlock] using hb
    subst this
    exact OwnF.ne h' hg (fun x => hne x.symm)
theorem Topo.own_of {base : Nat} {w : World} {u1 u2 : Value} {x : Topo} (o1 : OwnF ASd.f 3 base 155 w u1 x.ases) (o2 : OwnF Lnk.f 5 base 191 w u2 x.links) : Topo.own (rng base w.heap.size) w u1 u2 x :=
  ⟨fun b => u1.ownBlock = some b, fun b => u2.ownBlock = some b, ⟨o1.to0, fun _ h => h⟩, ⟨o2.to0, fun _ h => h⟩, fun b hb => o1.block b hb, fun b hb => o2.block b hb, fun _ hb h2 => OwnF.apartT o1 o2 (by decide) hb h2⟩
end
end Go.Proofs.YtikbeiafobnblaaGreat
