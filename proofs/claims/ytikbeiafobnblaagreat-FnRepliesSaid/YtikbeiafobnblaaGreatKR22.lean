/- What these laws need: FnForwards, FnHopsPassed, FnReplies: What is checked of hop fields, parts, paths and packets, and how a packet goes on, as plain functions. Contracts of kinds of interfaces, of steps that are allowed, and of members of a set, program and reference. Contracts of simple, verified and usable paths, program and reference. -/
import Derived.Test.YtikbeiafobnblaaGreatKR8
import Derived.Test.YtikbeiafobnblaaGreatKR20
namespace Go.Proofs.YtikbeiafobnblaaGreat
section
open Go.RowKit
def lastOf (x : Pkt) : Bool := x.hi == ((curPart x).hops.length : Int) - 1
def atLast (x : Pkt) : Bool := decide (0 ≤ curAs x) && lastOf x && (x.pi == (x.path.parts.length : Int) - 1)
def advance (x : Pkt) : Pkt := if curAs x < 0 || atLast x then x else if lastOf x then { x with pi := x.pi + 1, hi := 0, beta := (partAt x.path.parts (x.pi.toNat + 1)).beta } else { x with hi := x.hi + 1 }
def curBefore (x : Pkt) : Int := if isRev (curPart x).kind then subMod x.beta (curHop x).mac else x.beta
def curAfter (x : Pkt) : Int := if isRev (curPart x).kind then subMod x.beta (curHop x).mac else addMod x.beta (curHop x).mac
def curOk (t : Topo) (x : Pkt) : Bool := hasHop x && verHop t (curPart x).ts (curBefore x) (curHop x)
def verCur (t : Topo) (x : Pkt) : Pkt := if curOk t x then { x with beta := curAfter x } else x
def curIn (x : Pkt) (now : Int) : Bool := decide (0 ≤ curAs x) && decide ((curPart x).ts ≤ now) && decide (now ≤ (curHop x).exp)
def bitAt (s : Int) : Nat → Bool
  | i => (s / 2 ^ i) % 2 == 1
def inSet (s i : Int) : Bool := inR s 0 65535 && inR i 0 15 && bitAt s i.toNat
/-- The code of the check of a hop. -/
def chkCode (t : Topo) (now : Int) (x : Pkt) : Int := if curOk t x then (if curIn x now then 0 else 5) else 4
/-- All hops of this AS, one part after the other. -/
def chkAll (t : Topo) (now : Int) : Nat → Pkt → Int × Pkt
  | 0, x => (chkCode t now x, verCur t x)
  | f + 1, x => if chkCode t now x == 0 && lastOf (verCur t x) && !(atLast (verCur t x)) then chkAll t now f (advance (verCur t x)) else (chkCode t now x, verCur t x)
def forward (t : Topo) (r now dead inn : Int) (x : Pkt) : Vd :=
  if !(validPkt x && simple t x.path && (curAs x == r)) then ⟨2, 0, x⟩
  else if inn != wantIn x then ⟨3, 0, x⟩
  else
    let c := chkAll t now x.path.parts.length x
    if c.1 != 0 then ⟨c.1, 0, x⟩
    else if atLast c.2 then (if c.2.dst == r then ⟨1, 0, c.2⟩ else ⟨2, 0, x⟩)
    else
      let out := partEg (curPart c.2) c.2.hi
      if !(stepOk t ⟨r, inn, out⟩) then ⟨6, 0, x⟩
      else if inSet dead out then ⟨7, 0, x⟩
      else ⟨0, out, advance c.2⟩
end
section
open Go.ChangeShapes Go.WideShapes Go.ChangeAt Go.RowKit Go.Deep
theorem and1 (m : Int) (h0 : 0 ≤ m) (h1 : m < 9223372036854775808) : bits .and .i64 m 1 = m % 2 := by
 obtain ⟨k, rfl⟩ := Int.eq_ofNat_of_zero_le h0
 have := and_nat k 1 (by omega) (by omega)
 have h2 : k &&& 1 = k % 2 := Nat.and_two_pow_sub_one_eq_mod k 1
 rw [h2] at this
 have e : ((1 : Nat) : Int) = 1 := rfl
 rw [e] at this
 rw [this]; omega
end
section
open Go.ChangeShapes Go.WideShapes Go.ChangeAt Go.RowKit Go.Deep
set_option maxHeartbeats 400000 in
theorem i_HopValidAt (h : Hop) (now : Int) (w : World) :
  Calls Tryz.prog 133 #[.agg #[.int .i64 h.asn, .int .i64 h.ing, .int .i64 h.eg, .int .i64 h.exp, .int .i64 h.mac], .int .i64 now] w fun e w' => e = .returned (.bool (decide (now ≤ h.exp))) ∧ Ext w w' := by
 go_enter Tryz.func133, Tryz.ntmps133

 go_wp2
 go_ret
 exact ⟨rfl, (Ext.refl _).alloc _⟩
end
end Go.Proofs.YtikbeiafobnblaaGreat
