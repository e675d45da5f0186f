/- What these laws need: FnExactFormatTrace, FnFinishes: Contracts of links, interfaces and failed interfaces of a topology, program and reference. What is checked of hop fields, parts, paths and packets, and how a packet goes on, as plain functions. Contracts of digests, codes and hop fields, program and reference. -/
import Derived.Deep.LoopGhost
import Derived.Test.YtcpfmhgfaliemaaKN5
import Derived.Test.YtcpfmhgfaliemaaKN6
namespace Go.Proofs.Ytcpfmhgfaliemaa
section
open Go.ChangeShapes Go.WideShapes Go.ChangeAt Go.RowKit Go.Deep
def usesIf (x : Lnk) (r d : Int) : Bool := (x.a == r && x.ai == d) || (x.b == r && x.bi == d)
def linkFrom (r d : Int) : Nat → List Lnk → Int
 | _, [] => -1
 | k, x :: l => if usesIf x r d then k else linkFrom r d (k + 1) l
def linkIdx (l : List Lnk) (r d : Int) : Int := linkFrom r d 0 l
def ifStep (r : Int) (out : List Int) (x : Lnk) : List Int := if x.b == r then insInt x.bi (if x.a == r then insInt x.ai out else out) else (if x.a == r then insInt x.ai out else out)
def topoIfs (l : List Lnk) (r : Int) : List Int := l.foldl (ifStep r) []
end
section
open Go.RowKit
def digStep (d x : Int) : Int := (d * 1000003 + x % 2147483647 + 11) % 2147483647
def digest (l : List Int) : Int := l.foldl digStep 7
theorem digStep_res (d x : Int) : 0 ≤ digStep d x ∧ digStep d x ≤ 2147483646 := by unfold digStep; omega
def macOf (key : Int) (l : List Int) : Int := digest ([key] ++ l ++ [key])
def hopMac (key ts beta : Int) (h : Hop) : Int := macOf key [ts, beta, h.asn, h.ing, h.eg, h.exp]
def validHop (h : Hop) : Bool := inR h.asn 0 7 && inR h.ing 0 6 && inR h.eg 0 6 && (h.ing != h.eg) && inR h.exp 0 1000000 && isRes h.mac
def isAs (t : Topo) (r : Int) : Bool := inR r 0 ((t.ases.length : Int) - 1)
def asAt (t : Topo) (r : Int) : ASd := match t.ases[r.toNat]? with | some a => a | none => ⟨0, false, 0⟩
theorem asAt_at {t : Topo} {r : Int} (_ : 0 ≤ r) (h : r.toNat < t.ases.length) : asAt t r = t.ases[r.toNat] := by unfold asAt; rw [List.getElem?_eq_getElem h]
theorem isAs_lt {t : Topo} {r : Int} (h : isAs t r = true) : 0 ≤ r ∧ r.toNat < t.ases.length := by
  have := inR_true.1 h; omega
def verHop (t : Topo) (ts beta : Int) (h : Hop) : Bool := validHop h && isAs t h.asn && (h.mac == hopMac (asAt t h.asn).key ts beta h)
/-- The far end of a link: the AS and its interface. -/
def remEnd (t : Topo) (r d : Int) : Int × Int := if linkIdx t.links r d < 0 then (-1, 0) else match t.links[(linkIdx t.links r d).toNat]? with
  | some l => if (l.a == r) && (l.ai == d) then (l.b, l.bi) else (l.a, l.ai)
  | none => (-1, 0)
/-- What is at the other end. -/
def ifKind (t : Topo) (r d : Int) : Int := if d == 0 then 5 else if linkIdx t.links r d < 0 then 0 else match t.links[(linkIdx t.links r d).toNat]? with
  | some l => if l.kind == 1 then 1 else if l.kind == 3 then 4 else if l.kind == 2 then (if (l.a == r) && (l.ai == d) then 2 else 3) else 0
  | none => 0
theorem linkFrom_lt {r d : Int} : ∀ {l : List Lnk} {k : Nat}, linkFrom r d k l < (k + l.length : Int)
  | [], k => by simp [linkFrom]; omega
  | x :: l, k => by
    unfold linkFrom
    split
    · simp only [List.length_cons]; omega
    · have := linkFrom_lt (r := r) (d := d) (l := l) (k := k + 1)
      simp only [List.length_cons]; omega
theorem linkIdx_lt (l : List Lnk) (r d : Int) : linkIdx l r d < l.length := by
  have := linkFrom_lt (r := r) (d := d) (l := l) (k := 0)
  unfold linkIdx; omega
/-- The first k of a row, by their place. -/
def allTo (p : Nat → Bool) : Nat → Bool
  | 0 => true
  | k + 1 => allTo p k && p k
theorem allTo_true {p : Nat → Bool} : ∀ {n : Nat}, allTo p n = true ↔ ∀ k < n, p k = true
  | 0 => by simp [allTo]
  | n + 1 => by
    simp only [allTo, Bool.and_eq_true, allTo_true]
    constructor
    · intro h k hk
      rcases Nat.lt_or_ge k n with h1 | h1
      · exact h.1 k h1
      · obtain rfl : k = n := by omega
        exact h.2
    · intro h; exact ⟨fun k hk => h k (by omega), h n (by omega)⟩
theorem allTo_no {p : Nat → Bool} {n k : Nat} (hk : k < n) (h : p k = false) : allTo p n = false := by
  cases h1 : allTo p n
  · rfl
  · have := allTo_true.1 h1 k hk; rw [h] at this; cases this
theorem allTo_snoc {p : Nat → Bool} {k : Nat} (h : allTo p k = true) (h1 : p k = true) : allTo p (k + 1) = true := by simp [allTo, h, h1]
theorem allTo_congr {p q : Nat → Bool} {n : Nat} (h : ∀ k < n, p k = q k) : allTo p n = allTo q n := by
  induction n with
  | zero => rfl
  | succ n ih => simp only [allTo]; rw [ih (fun k hk => h k (by omega)), h n (by omega)]
def hopAt (l : List Hop) (i : Nat) : Hop := match l[i]? with | some h => h | none => ⟨0, 0, 0, 0, 0⟩
theorem hopAt_at {l : List Hop} {i : Nat} (h : i < l.length) : hopAt l i = l[i] := by unfold hopAt; rw [List.getElem?_eq_getElem h]
/-- A hop is valid, of an AS that exists, and none before it is of that AS. -/
def hopFresh (t : Topo) (l : List Hop) (i : Nat) : Bool := validHop (hopAt l i) && isAs t (hopAt l i).asn && !(hasI ((l.map (·.asn)).take i) (hopAt l i).asn)
def hopsOk (t : Topo) (l : List Hop) : Bool := inR (l.length : Int) 1 8 && allTo (hopFresh t l) l.length
/-- Hop i leads to the next one. -/
def joinAt (t : Topo) (p : Part) (i : Nat) : Bool := (partEg p i != 0) && ((remEnd t (hopAt p.hops i).asn (partEg p i)).1 == (hopAt p.hops (i + 1)).asn) && ((remEnd t (hopAt p.hops i).asn (partEg p i)).2 == partIn p (i + 1 : Nat))
def validPart (t : Topo) (p : Part) : Bool := inR p.kind 1 4 && hopsOk t p.hops && inR p.ts 0 1000000 && isRes p.beta && allTo (joinAt t p) (p.hops.length - 1)
def rank (k : Int) : Int := if k == 1 then 1 else if k == 2 || k == 3 then 2 else 3
def partAt (l : List Part) (i : Nat) : Part := match l[i]? with | some x => x | none => ⟨0, 0, 0, []⟩
theorem partAt_at {l : List Part} {i : Nat} (h : i < l.length) : partAt l i = l[i] := by unfold partAt; rw [List.getElem?_eq_getElem h]
/-- Part i follows the one before. -/
def followAt (l : List Part) (i : Nat) : Bool := decide (rank (partAt l i).kind < rank (partAt l (i + 1)).kind) && ((hopAt (partAt l i).hops ((partAt l i).hops.length - 1)).asn == (hopAt (partAt l (i + 1)).hops 0).asn)
def partOk (t : Topo) (l : List Part) (i : Nat) : Bool := validPart t (partAt l i) && (decide (i = 0) || followAt l (i - 1))
def wfPath (t : Topo) (p : Pth) : Bool := inR (p.parts.length : Int) 1 3 && allTo (partOk t p.parts) p.parts.length
def freshAt (l : List Int) (i : Nat) : Bool := match l[i]? with | some n => !(hasI (l.take i) n) | none => true
theorem freshAt_at {l : List Int} {i : Nat} (h : i < l.length) : freshAt l i = !(hasI (l.take i) l[i]) := by unfold freshAt; rw [List.getElem?_eq_getElem h]
def simple (t : Topo) (p : Pth) : Bool := wfPath t p && allTo (freshAt (usedIfs (pathSteps p.parts))) (usedIfs (pathSteps p.parts)).length
def betaFor (x : Part) (i : Nat) : Int := if isRev x.kind then betaAfter x (i + 1 : Nat) else betaAfter x i
def verPart (t : Topo) (x : Part) : Bool := allTo (fun i => verHop t x.ts (betaFor x i) (hopAt x.hops i)) x.hops.length
def verPath (t : Topo) (p : Pth) : Bool := allTo (fun i => verPart t (partAt p.parts i)) p.parts.length
def hopsIn (now : Int) (l : List Hop) : Bool := l.all (fun h => decide (now ≤ h.exp))
def partIn' (now : Int) (x : Part) : Bool := decide (x.ts ≤ now) && hopsIn now x.hops
def usable (t : Topo) (p : Pth) (now : Int) : Bool := simple t p && verPath t p && allTo (fun i => partIn' now (partAt p.parts i)) p.parts.length
/-- The least expiry. -/
def leastExp : List Hop → Int
  | [] => 0
  | h :: l => l.foldl (fun m x => if x.exp < m then x.exp else m) h.exp
theorem leastF_le (now : Int) : ∀ (l : List Hop) (m : Int), (now ≤ l.foldl (fun m x => if x.exp < m then x.exp else m) m) ↔ now ≤ m ∧ ∀ x ∈ l, now ≤ x.exp
  | [], m => by simp
  | x :: l, m => by
    rw [List.foldl_cons, leastF_le now l]
    simp only [List.mem_cons, forall_eq_or_imp]
    split <;> constructor <;> rintro ⟨h1, h2⟩ <;> refine ⟨?_, ?_⟩ <;> (first | omega | exact h2 | exact h2.2 | (refine ⟨?_, ?_⟩ <;> (first | omega | exact h2)))
theorem least_in {now : Int} {l : List Hop} (h : 0 < l.length) : hopsIn now l = decide (now ≤ leastExp l) := by
  cases l with
  | nil => simp at h
  | cons x l =>
    unfold hopsIn leastExp
    rw [Bool.eq_iff_iff]
    simp only [List.all_eq_true, decide_eq_true_eq, leastF_le, List.mem_cons, forall_eq_or_imp]
def hopsEnc (l : List Hop) : Bool := decide (l.length ≤ 8) && l.all validHop
def encPart (x : Part) : Bool := inR x.kind 1 4 && inR x.ts 0 1000000 && isRes x.beta && hopsEnc x.hops
def encPath (p : Pth) : Bool := decide (p.parts.length ≤ 3) && p.parts.all encPart
def curPart (x : Pkt) : Part := partAt x.path.parts x.pi.toNat
def curHop (x : Pkt) : Hop := hopAt (curPart x).hops x.hi.toNat
def hasHop (x : Pkt) : Bool := inR x.pi 0 ((x.path.parts.length : Int) - 1) && inR x.hi 0 (((curPart x).hops.length : Int) - 1)
def curAs (x : Pkt) : Int := if hasHop x then (curHop x).asn else -1
def validPkt (x : Pkt) : Bool := inR x.kind 1 3 && encPath x.path && hasHop x && isRes x.beta && x.path.parts.all (fun y => decide (0 < y.hops.length)) && inR x.src 0 7 && inR x.dst 0 7 && inR x.rid 0 100000 && inR x.seq 0 100000 && decide (x.pay.length ≤ 40)
def lastOf (x : Pkt) : Bool := x.hi == ((curPart x).hops.length : Int) - 1
def atLast (x : Pkt) : Bool := decide (0 ≤ curAs x) && lastOf x && (x.pi == (x.path.parts.length : Int) - 1)
def advance (x : Pkt) : Pkt := if curAs x < 0 || atLast x then x else if lastOf x then { x with pi := x.pi + 1, hi := 0, beta := (partAt x.path.parts (x.pi.toNat + 1)).beta } else { x with hi := x.hi + 1 }
def curBefore (x : Pkt) : Int := if isRev (curPart x).kind then subMod x.beta (curHop x).mac else x.beta
def curAfter (x : Pkt) : Int := if isRev (curPart x).kind then subMod x.beta (curHop x).mac else addMod x.beta (curHop x).mac
def curOk (t : Topo) (x : Pkt) : Bool := hasHop x && verHop t (curPart x).ts (curBefore x) (curHop x)
def verCur (t : Topo) (x : Pkt) : Pkt := if curOk t x then { x with beta := curAfter x } else x
def curIn (x : Pkt) (now : Int) : Bool := decide (0 ≤ curAs x) && decide ((curPart x).ts ≤ now) && decide (now ≤ (curHop x).exp)
def transitOk (a b : Int) : Bool :=
  if a == 5 || a == 2 then b == 1 || b == 2 || b == 3 || b == 5
  else if a == 3 then b == 2 || b == 5
  else if a == 1 then b == 1 || b == 2 || b == 5
  else false
def stepOk (t : Topo) (s : Step) : Bool := transitOk (ifKind t s.asn s.ing) (ifKind t s.asn s.eg) && ((s.ing != s.eg) || (s.ing == 0))
def bitAt (s : Int) : Nat → Bool
  | i => (s / 2 ^ i) % 2 == 1
def inSet (s i : Int) : Bool := inR s 0 65535 && inR i 0 15 && bitAt s i.toNat
structure Vd where
  code : Int
  eg : Int
  pkt : Pkt
  deriving DecidableEq
/-- The code of the check of a hop. -/
def chkCode (t : Topo) (now : Int) (x : Pkt) : Int := if curOk t x then (if curIn x now then 0 else 5) else 4
/-- All hops of this AS, one part after the other. -/
def chkAll (t : Topo) (now : Int) : Nat → Pkt → Int × Pkt
  | 0, x => (chkCode t now x, verCur t x)
  | f + 1, x => if chkCode t now x == 0 && lastOf (verCur t x) && !(atLast (verCur t x)) then chkAll t now f (advance (verCur t x)) else (chkCode t now x, verCur t x)
def wantIn (x : Pkt) : Int := if x.pi == 0 && x.hi == 0 then 0 else partIn (curPart x) x.hi
def forward (t : Topo) (r now dead inn : Int) (x : Pkt) : Vd :=
  if !(validPkt x && simple t x.path && (curAs x == r)) then ⟨2, 0, x⟩
  else if inn != wantIn x then ⟨3, 0, x⟩
  else
    let c := chkAll t now x.path.parts.length x
    if c.1 != 0 then ⟨c.1, 0, x⟩
    else if atLast c.2 then (if c.2.dst == r then ⟨1, 0, c.2⟩ else ⟨2, 0, x⟩)
    else
      let out := partEg (curPart c.2) c.2.hi
      if !(stepOk t ⟨r, inn, out⟩) then ⟨6, 0, x⟩
      else if inSet dead out then ⟨7, 0, x⟩
      else ⟨0, out, advance c.2⟩
structure TrSt where
  r : Int
  inn : Int
  code : Int
  steps : List Step
  pkt : Pkt
end
section
open Go.ChangeShapes Go.WideShapes Go.ChangeAt Go.RowKit Go.Deep
theorem ExtW.out {w w1 : World} (h : ∃ x : ExtW w, w1 = x.w') : Ext w w1 := by obtain ⟨y, rfl⟩ := h; exact y.h
theorem tmod_bd (n : Int) : -2147483647 < n.tmod 2147483647 ∧ n.tmod 2147483647 < 2147483647 := by
 rw [Int.tmod_eq_emod]; split <;> omega
theorem mod_pos (n : Int) : (n.tmod 2147483647 + 2147483647) % 2147483647 = n % 2147483647 := by
 rw [Int.add_emod_right, Int.tmod_eq_emod]
 split <;> omega
theorem mod_pos' (n : Int) : (n.tmod 2147483647 + 2147483647).tmod 2147483647 = n % 2147483647 := by
 have := tmod_bd n
 rw [Int.tmod_eq_emod_of_nonneg (by omega)]; exact mod_pos n
theorem digest_snoc {l : List Int} {k : Nat} (hk : k < l.length) : digest (l.take (k + 1)) = digStep (digest (l.take k)) l[k] := by
 unfold digest; rw [List.take_succ_eq_append_getElem hk, List.foldl_append]; rfl
theorem digest_res (l : List Int) : 0 ≤ digest l ∧ digest l ≤ 2147483646 := by
 rcases List.eq_nil_or_concat l with rfl | ⟨l', x, rfl⟩
 ·
  exact ⟨by decide, by decide⟩
 ·
  unfold digest; rw [List.concat_eq_append, List.foldl_append]; exact digStep_res _ x
set_option maxHeartbeats 400000 in
theorem i_isAS (t : Topo) (v1 v2 : Value) (r : Int) (w : World) (ha : RdS ASd.rep w v1 t.ases) :
  Calls Try.prog 56 #[.agg #[v1, v2], .int .i64 r] w fun e w' => e = .returned (.bool (isAs t r)) ∧ Ext w w' := by
 obtain ⟨o, cap, rfl, hsm⟩ := ha.shape
 go_enter Try.func56, Try.ntmps56

 go_wp2_with (go_at_call 63; refine (i_InRange _ _ _ _).mono ?_; rintro e w' ⟨rfl, rfl⟩)
 go_ret
 exact ⟨rfl, (Ext.refl _).alloc _⟩
set_option maxHeartbeats 400000 in
theorem s_l5Realm (t : Topo) (v1 v2 : Value) (r : Int) (w : World) (ha : RdS ASd.rep w v1 t.ases) :
  Calls Try.prog 70 #[.agg #[v1, v2], .int .i64 r] w fun e w' => e = .returned (.bool (isAs t r)) ∧ Ext w w' := by
 obtain ⟨o, cap, rfl, hsm⟩ := ha.shape
 go_enter Try.func70, Try.ntmps70

 go_wp2_with (go_at_call 69; refine (s_l1In _ _ _ _).mono ?_; rintro e w' ⟨rfl, rfl⟩)
 go_ret
 exact ⟨rfl, (Ext.refl _).alloc _⟩
end
end Go.Proofs.Ytcpfmhgfaliemaa
