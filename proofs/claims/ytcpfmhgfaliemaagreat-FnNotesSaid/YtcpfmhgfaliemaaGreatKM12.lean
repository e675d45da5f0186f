/- What these laws need: FnNotes: Contracts of links, interfaces and failed interfaces of a topology, program and reference. What is checked of hop fields, parts, paths and packets, and how a packet goes on, as plain functions. Links laid one by one, each at the next number of either end: no two of them share an end. Chains of residues and the digest, as plain functions: a chain is undone from its end; a digest tells two rows apart that differ at one place. Segments as they are drawn: grown hop by hop along the links of a right topology, each hop sealed: all of them verify. Contracts of digests, codes and hop fields, program and reference. Contracts of chains of residues, of comparing rows of numbers, and of keys, program and reference. -/
import Derived.Deep.LoopGhost
import Derived.Test.YtcpfmhgfaliemaaGreatKM7
import Derived.Test.YtcpfmhgfaliemaaGreatKM9
import Derived.Test.YtcpfmhgfaliemaaGreatKM11
namespace Go.Proofs.YtcpfmhgfaliemaaGreat
section
open Go.ChangeShapes Go.WideShapes Go.ChangeAt Go.RowKit Go.Deep
def usesIf (x : Lnk) (r d : Int) : Bool := (x.a == r && x.ai == d) || (x.b == r && x.bi == d)
def linkFrom (r d : Int) : Nat → List Lnk → Int
 | _, [] => -1
 | k, x :: l => if usesIf x r d then k else linkFrom r d (k + 1) l
def linkIdx (l : List Lnk) (r d : Int) : Int := linkFrom r d 0 l
theorem linkFrom_no {r d : Int} {l : List Lnk} {k : Nat} (hk : k < l.length) (h : usesIf l[k] r d = false) : linkFrom r d k (l.drop k) = linkFrom r d (k + 1) (l.drop (k + 1)) := by
 rw [List.drop_eq_getElem_cons hk]
 show (if _ then _ else _) = _
 rw [h]; simp
theorem linkFrom_yes {r d : Int} {l : List Lnk} {k : Nat} (hk : k < l.length) (h : usesIf l[k] r d = true) : linkFrom r d k (l.drop k) = k := by
 rw [List.drop_eq_getElem_cons hk]
 show (if _ then _ else _) = _
 rw [h]; simp
def ifStep (r : Int) (out : List Int) (x : Lnk) : List Int := if x.b == r then insInt x.bi (if x.a == r then insInt x.ai out else out) else (if x.a == r then insInt x.ai out else out)
def topoIfs (l : List Lnk) (r : Int) : List Int := l.foldl (ifStep r) []
theorem foldl_snoc {α β : Type} (f : β → α → β) (z : β) {l : List α} {k : Nat} (hk : k < l.length) : (l.take (k + 1)).foldl f z = f ((l.take k).foldl f z) l[k] := by
 rw [List.take_succ_eq_append_getElem hk, List.foldl_append]; rfl
theorem ifStep_len (r : Int) (out : List Int) (x : Lnk) : (ifStep r out x).length ≤ out.length + 2 := by
 unfold ifStep; have h1 := insInt_len x.ai out; have h2 := insInt_len x.bi out; have h3 := insInt_len x.bi (insInt x.ai out)
 split <;> split <;> omega
theorem topoIfs_len (l : List Lnk) (r : Int) : (topoIfs l r).length ≤ 2 * l.length := by
 have : ∀ (l : List Lnk) (z : List Int), (l.foldl (ifStep r) z).length ≤ z.length + 2 * l.length := by
  intro l
  induction l with
  | nil => intro z; simp
  | cons x l ih => intro z; have := ih (ifStep r z x); have := ifStep_len r z x; simp only [List.foldl_cons, List.length_cons]; omega
 simpa [topoIfs] using this l []
def orI (a b : Int) : Int := IntKind.wrap .i64 ((BitVec.ofInt 64 a ||| BitVec.ofInt 64 b).toNat : Int)
def addEl (s i : Int) : Int := if inR s 0 65535 && inR i 0 15 then orI s (2 ^ i.toNat) else s
def failStep (t : Topo) (dead : List Int) (r : Int) (s x : Int) : Int := if hasI dead (linkIdx t.links r x) then addEl s x else s
def failedIfs (t : Topo) (dead : List Int) (r : Int) : Int := (topoIfs t.links r).foldl (failStep t dead r) 0
set_option maxHeartbeats 1000000 in
theorem s_l5Ends (x : Lnk) (r d : Int) (w : World) :
  Calls Tryz.prog 209 #[.agg #[.int .i64 x.a, .int .i64 x.ai, .int .i64 x.b, .int .i64 x.bi, .int .i64 x.kind], .int .i64 r, .int .i64 d] w fun e w' => e = .returned (.bool (usesIf x r d)) ∧ Ext w w' := by
 go_enter Tryz.func209, Tryz.ntmps209
 cases h1 : (x.a == r) <;> cases h2 : (x.ai == d) <;> cases h3 : (x.b == r) <;> cases h4 : (x.bi == d)
 all_goals
  go_wp2
  go_ret
  exact ⟨ret_bool (by unfold usesIf; rw [h1, h2, h3, h4]; rfl), (Ext.refl _).alloc _⟩
set_option maxHeartbeats 1000000 in
theorem s_LinkIndex (t : Topo) (v1 v2 : Value) (r d : Int) (w : World) (h2 : RdS Lnk.rep w v2 t.links) :
  Calls Tryz.prog 144 #[.agg #[v1, v2], .int .i64 r, .int .i64 d] w fun e w' => e = .returned (.int .i64 (linkIdx t.links r d)) ∧ Ext w w' := by
 obtain ⟨o, cap, rfl, hsm⟩ := h2.shape; have hx0 : Ext w (w.alloc (.cells #[v1, .slice o t.links.length cap] 56)) := (Ext.refl _).alloc _; have hB := blk_new w (.cells #[v1, .slice o t.links.length cap] 56); have HB := Lib.hid hB; clear hB; have hv := h2.ext hx0; have hLI : linkIdx t.links r d = linkFrom r d 0 t.links := rfl; have HLI := Lib.hid hLI; clear hLI; generalize t.links = l at *
 go_enter Tryz.func144, Tryz.ntmps144
 go_wp2
 go_loopg [7] l.length (fun gk i wr => ∃ k : Nat, gk + k = l.length ∧ i = .int .i64 k ∧ Hid (linkFrom r d k (l.drop k) = linkFrom r d 0 l) ∧ Ext (w.alloc (.cells #[v1, .slice o l.length cap] 56)) wr)
 case atStart => exact ⟨0, rfl, rfl, Lib.hid rfl, Ext.refl _⟩
 case round =>
  obtain ⟨k, hgk, rfl, HK, hx⟩ := hrel; have hc0 := blk2 (Ext.block hx HB.out)
  by_cases hlt : k < l.length
  ·
   obtain ⟨b, off, rfl, hc⟩ := Lnk.at (hv.ext hx) k hlt; have hg' : gk - 1 + (k + 1) = l.length ∧ gk - 1 < gk := by omega
   have HG := Lib.hid hg'; clear hg' hgk
   go_wp2_with fail
   refine (s_l5Ends l[k] r d _).mono ?_; rintro e w2 ⟨rfl, k2⟩; have hx2 := (hx).trans k2
   cases hu : usesIf l[k] r d
   ·
    have HK2 := Lib.hid ((linkFrom_no hlt hu).symm.trans HK.out)
    go_wp2_with fail
    go_roundg (gk - 1)
    case measure => exact HG.out.2
    case rel => exact ⟨k + 1, HG.out.1, by go_num, HK2, hx2⟩
   ·
    have HY := Lib.hid ((HLI.out.trans HK.out.symm).trans (linkFrom_yes hlt hu))
    go_wp2_with fail
    go_ret
    exact ⟨ret_int HY.out.symm, hx0.trans hx2⟩
  ·
   have HY := Lib.hid (HLI.out.trans (HK.out.symm.trans (show _ = (-1 : Int) by rw [List.drop_of_length_le (by omega)]; rfl)))
   go_wp2
   go_ret
   exact ⟨ret_int HY.out.symm, hx0.trans hx⟩
set_option maxRecDepth 100000 in
set_option maxHeartbeats 2000000 in
theorem s_Interfaces (t : Topo) (v1 v2 : Value) (r : Int) (w : World) (h2 : RdS Lnk.rep w v2 t.links) (hl : t.links.length ≤ 1048576) :
  Calls Tryz.prog 143 #[.agg #[v1, v2], .int .i64 r] w fun e w' => ∃ v', e = .returned v' ∧ OwnF intF 1 w.heap.size 3 w' v' (topoIfs t.links r) ∧ Ext w w' := by
 obtain ⟨o, cap, rfl, hsm⟩ := h2.shape; have hx0 : Ext w ((w.alloc (.cells #[v1, .slice o t.links.length cap] 56)).alloc (.cells #[] 3)) := ((Ext.refl _).alloc _).alloc _; have hB := Ext.block ((Ext.refl _).alloc (.cells #[] 3)) (blk_new w (.cells #[v1, .slice o t.links.length cap] 56)); have ho0 := (OwnF.empty intF 1 (w.alloc (.cells #[v1, .slice o t.links.length cap] 56)).heap.size 3 (w.alloc (.cells #[v1, .slice o t.links.length cap] 56)) (Nat.le_refl _)).mono (base' := w.heap.size) (by simp); simp only [nblk_alloc] at ho0; have HB := Lib.hid hB; clear hB; have hv := h2.ext hx0; have hTI : topoIfs t.links r = t.links.foldl (ifStep r) [] := rfl; have HTI := Lib.hid hTI; clear hTI; generalize t.links = l at *
 go_enter Tryz.func143, Tryz.ntmps143
 go_wp2
 go_loopg [5, 6] l.length (fun gk out i wr => ∃ (k : Nat) (xs : List Int), gk + k = l.length ∧ i = .int .i64 k ∧ Hid (xs = (l.take k).foldl (ifStep r) []) ∧ xs.length ≤ 2 * k ∧ OwnF intF 1 w.heap.size 3 wr out xs ∧ Ext ((w.alloc (.cells #[v1, .slice o l.length cap] 56)).alloc (.cells #[] 3)) wr)
 case atStart => exact ⟨0, [], rfl, rfl, Lib.hid rfl, Nat.le_refl _, ho0, Ext.refl _⟩
 case round =>
  obtain ⟨k, xs, hgk, rfl, HX, hxl, hown, hx⟩ := hrel; have hc0 := blk2 (Ext.block hx HB.out); obtain ⟨oo, co, rfl, _⟩ := (ints_rep hown).shape; have hsz := hown
  by_cases hlt : k < l.length
  ·
   obtain ⟨b, off, rfl, hc⟩ := Lnk.at (hv.ext hx) k hlt; have hg' : gk - 1 + (k + 1) = l.length ∧ gk - 1 < gk := by omega
   have HG := Lib.hid hg'; clear hg' hgk; have hst : (l.take (k + 1)).foldl (ifStep r) [] = ifStep r xs l[k] := by rw [foldl_snoc _ _ hlt, HX.out]
   have HST := Lib.hid hst; clear hst; have hwr : w.heap.size ≤ wr.heap.size := (hx0.t hx).size; have hi1 := insInt_len l[k].ai xs; have hi2 := insInt_len l[k].bi xs; have hi3 := insInt_len l[k].bi (insInt l[k].ai xs); have hxa : Ext wr wr := Ext.refl _; have hoa := hown.ext hxa; clear hsz hown
   cases ha : (l[k].a == r)
   ·
    cases hb : (l[k].b == r)
    ·
     have hes : ifStep r xs l[k] = xs := by unfold ifStep; rw [ha, hb]; rfl
     have HE := Lib.hid (hes.symm.trans HST.out.symm); clear hes
     go_wp2_with fail
     go_roundg (gk - 1)
     case measure => exact HG.out.2
     case rel => exact ⟨k + 1, _, HG.out.1, by go_num, HE, by omega, hoa, hx.trans hxa⟩
    ·
     have hes : ifStep r xs l[k] = insInt l[k].bi xs := by unfold ifStep; rw [ha, hb]; rfl
     have HE := Lib.hid (hes.symm.trans HST.out.symm); clear hes
     go_wp2_with fail
     refine (s_l5Put xs _ l[k].bi w.heap.size _ hoa (Nat.le_trans hwr hxa.size) (by omega)).mono ?_; rintro e w2 ⟨v2, rfl, o2, k2⟩
     go_wp2_with fail
     go_roundg (gk - 1)
     case measure => exact HG.out.2
     case rel => exact ⟨k + 1, _, HG.out.1, by go_num, HE, by omega, o2, (hx.t hxa).trans k2⟩
   ·
    go_wp2_with fail
    refine (s_l5Put xs _ l[k].ai w.heap.size _ hoa (Nat.le_trans hwr hxa.size) (by omega)).mono ?_; rintro e w2 ⟨v2, rfl, o2, k2⟩; obtain ⟨oo2, co2, rfl, _⟩ := (ints_rep o2).shape; have hcb := blk2 (Ext.block (hx.trans (hxa.trans k2)) HB.out); have hcc := Lnk.at_ext (hxa.trans k2) hc
    cases hb : (l[k].b == r)
    ·
     have hes : ifStep r xs l[k] = insInt l[k].ai xs := by unfold ifStep; rw [ha, hb]; rfl
     have HE := Lib.hid (hes.symm.trans HST.out.symm); clear hes
     go_wp2_with fail
     go_roundg (gk - 1)
     case measure => exact HG.out.2
     case rel => exact ⟨k + 1, _, HG.out.1, by go_num, HE, by omega, o2, (hx.t hxa).trans k2⟩
    ·
     have hes : ifStep r xs l[k] = insInt l[k].bi (insInt l[k].ai xs) := by unfold ifStep; rw [ha, hb]; rfl
     have HE := Lib.hid (hes.symm.trans HST.out.symm); clear hes
     go_wp2_with fail
     refine (s_l5Put _ _ l[k].bi w.heap.size _ o2 (Nat.le_trans hwr (hxa.trans k2).size) (by omega)).mono ?_; rintro e w3 ⟨v3, rfl, o3, k3⟩
     go_wp2_with fail
     go_roundg (gk - 1)
     case measure => exact HG.out.2
     case rel => exact ⟨k + 1, _, HG.out.1, by go_num, HE, by omega, o3, ((hx.t hxa).trans k2).trans k3⟩
  ·
   have hxs : xs = topoIfs l r := by
    have := HX.out; rw [List.take_of_length_le (by omega)] at this; exact this
   have HXS := Lib.hid hxs; clear hxs
   go_wp2
   go_ret
   rw [← HXS.out]; exact ⟨_, rfl, hown, hx0.trans hx⟩
end
section
open Go.RowKit
def digStep (d x : Int) : Int := (d * 1000003 + x % 2147483647 + 11) % 2147483647
def digest (l : List Int) : Int := l.foldl digStep 7
theorem digStep_res (d x : Int) : 0 ≤ digStep d x ∧ digStep d x ≤ 2147483646 := by unfold digStep; omega
def macOf (key : Int) (l : List Int) : Int := digest ([key] ++ l ++ [key])
def hopMac (key ts beta : Int) (h : Hop) : Int := macOf key [ts, beta, h.asn, h.ing, h.eg, h.exp]
def validHop (h : Hop) : Bool := inR h.asn 0 7 && inR h.ing 0 6 && inR h.eg 0 6 && (h.ing != h.eg) && inR h.exp 0 1000000 && isRes h.mac
def isAs (t : Topo) (r : Int) : Bool := inR r 0 ((t.ases.length : Int) - 1)
def asAt (t : Topo) (r : Int) : ASd := match t.ases[r.toNat]? with | some a => a | none => ⟨0, false, 0⟩
theorem asAt_at {t : Topo} {r : Int} (_ : 0 ≤ r) (h : r.toNat < t.ases.length) : asAt t r = t.ases[r.toNat] := by unfold asAt; rw [List.getElem?_eq_getElem h]
theorem isAs_lt {t : Topo} {r : Int} (h : isAs t r = true) : 0 ≤ r ∧ r.toNat < t.ases.length := by
 have := inR_true.1 h; omega
def verHop (t : Topo) (ts beta : Int) (h : Hop) : Bool := validHop h && isAs t h.asn && (h.mac == hopMac (asAt t h.asn).key ts beta h)
def remEnd (t : Topo) (r d : Int) : Int × Int := if linkIdx t.links r d < 0 then (-1, 0) else match t.links[(linkIdx t.links r d).toNat]? with
  | some l => if (l.a == r) && (l.ai == d) then (l.b, l.bi) else (l.a, l.ai)
  | none => (-1, 0)
def ifKind (t : Topo) (r d : Int) : Int := if d == 0 then 5 else if linkIdx t.links r d < 0 then 0 else match t.links[(linkIdx t.links r d).toNat]? with
  | some l => if l.kind == 1 then 1 else if l.kind == 3 then 4 else if l.kind == 2 then (if (l.a == r) && (l.ai == d) then 2 else 3) else 0
  | none => 0
theorem linkFrom_lt {r d : Int} : ∀ {l : List Lnk} {k : Nat}, linkFrom r d k l < (k + l.length : Int)
 | [], k => by simp [linkFrom]; omega
 | x :: l, k => by
  unfold linkFrom
  split
  ·
   simp only [List.length_cons]; omega
  ·
   have := linkFrom_lt (r := r) (d := d) (l := l) (k := k + 1); simp only [List.length_cons]; omega
theorem linkIdx_lt (l : List Lnk) (r d : Int) : linkIdx l r d < l.length := by
 have := linkFrom_lt (r := r) (d := d) (l := l) (k := 0); unfold linkIdx; omega
def allTo (p : Nat → Bool) : Nat → Bool
  | 0 => true
  | k + 1 => allTo p k && p k
theorem allTo_true {p : Nat → Bool} : ∀ {n : Nat}, allTo p n = true ↔ ∀ k < n, p k = true
 | 0 => by simp [allTo]
 | n + 1 => by
  simp only [allTo, Bool.and_eq_true, allTo_true]
  constructor
  ·
   intro h k hk
   rcases Nat.lt_or_ge k n with h1 | h1
   ·
    exact h.1 k h1
   ·
    obtain rfl : k = n := by omega
    exact h.2
  ·
   intro h; exact ⟨fun k hk => h k (by omega), h n (by omega)⟩
theorem allTo_no {p : Nat → Bool} {n k : Nat} (hk : k < n) (h : p k = false) : allTo p n = false := by
 cases h1 : allTo p n
 ·
  rfl
 ·
  have := allTo_true.1 h1 k hk; rw [h] at this; cases this
theorem allTo_snoc {p : Nat → Bool} {k : Nat} (h : allTo p k = true) (h1 : p k = true) : allTo p (k + 1) = true := by simp [allTo, h, h1]
theorem allTo_congr {p q : Nat → Bool} {n : Nat} (h : ∀ k < n, p k = q k) : allTo p n = allTo q n := by
 induction n with
 | zero => rfl
 | succ n ih => simp only [allTo]; rw [ih (fun k hk => h k (by omega)), h n (by omega)]
def hopAt (l : List Hop) (i : Nat) : Hop := match l[i]? with | some h => h | none => ⟨0, 0, 0, 0, 0⟩
theorem hopAt_at {l : List Hop} {i : Nat} (h : i < l.length) : hopAt l i = l[i] := by unfold hopAt; rw [List.getElem?_eq_getElem h]
def hopFresh (t : Topo) (l : List Hop) (i : Nat) : Bool := validHop (hopAt l i) && isAs t (hopAt l i).asn && !(hasI ((l.map (·.asn)).take i) (hopAt l i).asn)
def hopsOk (t : Topo) (l : List Hop) : Bool := inR (l.length : Int) 1 8 && allTo (hopFresh t l) l.length
def joinAt (t : Topo) (p : Part) (i : Nat) : Bool := (partEg p i != 0) && ((remEnd t (hopAt p.hops i).asn (partEg p i)).1 == (hopAt p.hops (i + 1)).asn) && ((remEnd t (hopAt p.hops i).asn (partEg p i)).2 == partIn p (i + 1 : Nat))
def validPart (t : Topo) (p : Part) : Bool := inR p.kind 1 4 && hopsOk t p.hops && inR p.ts 0 1000000 && isRes p.beta && allTo (joinAt t p) (p.hops.length - 1)
def rank (k : Int) : Int := if k == 1 then 1 else if k == 2 || k == 3 then 2 else 3
def partAt (l : List Part) (i : Nat) : Part := match l[i]? with | some x => x | none => ⟨0, 0, 0, []⟩
theorem partAt_at {l : List Part} {i : Nat} (h : i < l.length) : partAt l i = l[i] := by unfold partAt; rw [List.getElem?_eq_getElem h]
def followAt (l : List Part) (i : Nat) : Bool := decide (rank (partAt l i).kind < rank (partAt l (i + 1)).kind) && ((hopAt (partAt l i).hops ((partAt l i).hops.length - 1)).asn == (hopAt (partAt l (i + 1)).hops 0).asn)
def partOk (t : Topo) (l : List Part) (i : Nat) : Bool := validPart t (partAt l i) && (decide (i = 0) || followAt l (i - 1))
def wfPath (t : Topo) (p : Pth) : Bool := inR (p.parts.length : Int) 1 3 && allTo (partOk t p.parts) p.parts.length
def freshAt (l : List Int) (i : Nat) : Bool := match l[i]? with | some n => !(hasI (l.take i) n) | none => true
theorem freshAt_at {l : List Int} {i : Nat} (h : i < l.length) : freshAt l i = !(hasI (l.take i) l[i]) := by unfold freshAt; rw [List.getElem?_eq_getElem h]
def simple (t : Topo) (p : Pth) : Bool := wfPath t p && allTo (freshAt (usedIfs (pathSteps p.parts))) (usedIfs (pathSteps p.parts)).length
def betaFor (x : Part) (i : Nat) : Int := if isRev x.kind then betaAfter x (i + 1 : Nat) else betaAfter x i
def verPart (t : Topo) (x : Part) : Bool := allTo (fun i => verHop t x.ts (betaFor x i) (hopAt x.hops i)) x.hops.length
def verPath (t : Topo) (p : Pth) : Bool := allTo (fun i => verPart t (partAt p.parts i)) p.parts.length
def hopsIn (now : Int) (l : List Hop) : Bool := l.all (fun h => decide (now ≤ h.exp))
def partIn' (now : Int) (x : Part) : Bool := decide (x.ts ≤ now) && hopsIn now x.hops
def usable (t : Topo) (p : Pth) (now : Int) : Bool := simple t p && verPath t p && allTo (fun i => partIn' now (partAt p.parts i)) p.parts.length
def leastExp : List Hop → Int
  | [] => 0
  | h :: l => l.foldl (fun m x => if x.exp < m then x.exp else m) h.exp
theorem leastF_le (now : Int) : ∀ (l : List Hop) (m : Int), (now ≤ l.foldl (fun m x => if x.exp < m then x.exp else m) m) ↔ now ≤ m ∧ ∀ x ∈ l, now ≤ x.exp
 | [], m => by simp
 | x :: l, m => by
  rw [List.foldl_cons, leastF_le now l]; simp only [List.mem_cons, forall_eq_or_imp]
  split <;> constructor <;> rintro ⟨h1, h2⟩ <;> refine ⟨?_, ?_⟩ <;> (first | omega | exact h2 | exact h2.2 | (refine ⟨?_, ?_⟩ <;> (first | omega | exact h2)))
theorem least_in {now : Int} {l : List Hop} (h : 0 < l.length) : hopsIn now l = decide (now ≤ leastExp l) := by
 cases l with
 | nil => simp at h
 | cons x l =>
  unfold hopsIn leastExp; rw [Bool.eq_iff_iff]; simp only [List.all_eq_true, decide_eq_true_eq, leastF_le, List.mem_cons, forall_eq_or_imp]
def hopsEnc (l : List Hop) : Bool := decide (l.length ≤ 8) && l.all validHop
def encPart (x : Part) : Bool := inR x.kind 1 4 && inR x.ts 0 1000000 && isRes x.beta && hopsEnc x.hops
def encPath (p : Pth) : Bool := decide (p.parts.length ≤ 3) && p.parts.all encPart
def curPart (x : Pkt) : Part := partAt x.path.parts x.pi.toNat
def curHop (x : Pkt) : Hop := hopAt (curPart x).hops x.hi.toNat
def hasHop (x : Pkt) : Bool := inR x.pi 0 ((x.path.parts.length : Int) - 1) && inR x.hi 0 (((curPart x).hops.length : Int) - 1)
def curAs (x : Pkt) : Int := if hasHop x then (curHop x).asn else -1
def validPkt (x : Pkt) : Bool := inR x.kind 1 3 && encPath x.path && hasHop x && isRes x.beta && x.path.parts.all (fun y => decide (0 < y.hops.length)) && inR x.src 0 7 && inR x.dst 0 7 && inR x.rid 0 100000 && inR x.seq 0 100000 && decide (x.pay.length ≤ 40)
def lastOf (x : Pkt) : Bool := x.hi == ((curPart x).hops.length : Int) - 1
def atLast (x : Pkt) : Bool := decide (0 ≤ curAs x) && lastOf x && (x.pi == (x.path.parts.length : Int) - 1)
def advance (x : Pkt) : Pkt := if curAs x < 0 || atLast x then x else if lastOf x then { x with pi := x.pi + 1, hi := 0, beta := (partAt x.path.parts (x.pi.toNat + 1)).beta } else { x with hi := x.hi + 1 }
def curBefore (x : Pkt) : Int := if isRev (curPart x).kind then subMod x.beta (curHop x).mac else x.beta
def curAfter (x : Pkt) : Int := if isRev (curPart x).kind then subMod x.beta (curHop x).mac else addMod x.beta (curHop x).mac
def curOk (t : Topo) (x : Pkt) : Bool := hasHop x && verHop t (curPart x).ts (curBefore x) (curHop x)
def verCur (t : Topo) (x : Pkt) : Pkt := if curOk t x then { x with beta := curAfter x } else x
def curIn (x : Pkt) (now : Int) : Bool := decide (0 ≤ curAs x) && decide ((curPart x).ts ≤ now) && decide (now ≤ (curHop x).exp)
def transitOk (a b : Int) : Bool :=
  if a == 5 || a == 2 then b == 1 || b == 2 || b == 3 || b == 5
  else if a == 3 then b == 2 || b == 5
  else if a == 1 then b == 1 || b == 2 || b == 5
  else false
def stepOk (t : Topo) (s : Step) : Bool := transitOk (ifKind t s.asn s.ing) (ifKind t s.asn s.eg) && ((s.ing != s.eg) || (s.ing == 0))
def bitAt (s : Int) : Nat → Bool
  | i => (s / 2 ^ i) % 2 == 1
def inSet (s i : Int) : Bool := inR s 0 65535 && inR i 0 15 && bitAt s i.toNat
structure Vd where
  code : Int
  eg : Int
  pkt : Pkt
  deriving DecidableEq
def chkCode (t : Topo) (now : Int) (x : Pkt) : Int := if curOk t x then (if curIn x now then 0 else 5) else 4
def chkAll (t : Topo) (now : Int) : Nat → Pkt → Int × Pkt
  | 0, x => (chkCode t now x, verCur t x)
  | f + 1, x => if chkCode t now x == 0 && lastOf (verCur t x) && !(atLast (verCur t x)) then chkAll t now f (advance (verCur t x)) else (chkCode t now x, verCur t x)
def wantIn (x : Pkt) : Int := if x.pi == 0 && x.hi == 0 then 0 else partIn (curPart x) x.hi
def forward (t : Topo) (r now dead inn : Int) (x : Pkt) : Vd :=
  if !(validPkt x && simple t x.path && (curAs x == r)) then ⟨2, 0, x⟩
  else if inn != wantIn x then ⟨3, 0, x⟩
  else
    let c := chkAll t now x.path.parts.length x
    if c.1 != 0 then ⟨c.1, 0, x⟩
    else if atLast c.2 then (if c.2.dst == r then ⟨1, 0, c.2⟩ else ⟨2, 0, x⟩)
    else
      let out := partEg (curPart c.2) c.2.hi
      if !(stepOk t ⟨r, inn, out⟩) then ⟨6, 0, x⟩
      else if inSet dead out then ⟨7, 0, x⟩
      else ⟨0, out, advance c.2⟩
structure TrSt where
  r : Int
  inn : Int
  code : Int
  steps : List Step
  pkt : Pkt
end
section
open Go.ChangeShapes Go.WideShapes Go.ChangeAt Go.RowKit Go.Deep
theorem insInt_mem {n y : Int} : ∀ {l : List Int}, y ∈ insInt n l ↔ y = n ∨ y ∈ l
 | [] => by simp [insInt]
 | x :: l => by
  unfold insInt
  split
  ·
   rw [List.mem_cons, insInt_mem, List.mem_cons]
   constructor
   ·
    rintro (h | h | h)
    ·
     exact .inr (.inl h)
    ·
     exact .inl h
    ·
     exact .inr (.inr h)
   ·
    rintro (h | h | h)
    ·
     exact .inr (.inl h)
    ·
     exact .inl h
    ·
     exact .inr (.inr h)
  ·
   split
   ·
    rename_i h
    subst h
    simp
   ·
    simp
theorem insInt_new {n : Int} : ∀ {l : List Int}, n ∉ l → (insInt n l).length = l.length + 1
 | [], _ => rfl
 | x :: l, h => by
  simp only [List.mem_cons, not_or] at h; unfold insInt
  split
  ·
   simp [insInt_new h.2]
  ·
   split
   ·
    rename_i e; exact absurd e.symm h.1
   ·
    simp
theorem insInt_more (n : Int) (l : List Int) : l.length ≤ (insInt n l).length := by
 induction l with
 | nil => simp
 | cons x l ih => unfold insInt; split <;> (try split) <;> simp <;> omega
def lnkEnds (x : Lnk) : List (Int × Int) := [(x.a, x.ai), (x.b, x.bi)]
def allEnds (l : List Lnk) : List (Int × Int) := l.flatMap lnkEnds
theorem allEnds_app (l m : List Lnk) : allEnds (l ++ m) = allEnds l ++ allEnds m := by simp [allEnds]
theorem topoIfs_app (l : List Lnk) (x : Lnk) (r : Int) : topoIfs (l ++ [x]) r = ifStep r (topoIfs l r) x := by simp [topoIfs]
theorem ifStep_mem {r n : Int} {out : List Int} {x : Lnk} : n ∈ ifStep r out x ↔ (r, n) ∈ lnkEnds x ∨ n ∈ out := by
 unfold ifStep lnkEnds; simp only [List.mem_cons, List.not_mem_nil, or_false, Prod.mk.injEq]
 split <;> split <;> simp_all [insInt_mem] <;> grind
theorem ifStep_more (r : Int) (out : List Int) (x : Lnk) : out.length ≤ (ifStep r out x).length := by
 unfold ifStep; have h1 := insInt_more x.ai out; have h2 := insInt_more x.bi out; have h3 := insInt_more x.bi (insInt x.ai out)
 split <;> split <;> omega
theorem topoIfs_mem {r n : Int} : ∀ {l : List Lnk} {out : List Int}, n ∈ l.foldl (ifStep r) out ↔ (r, n) ∈ allEnds l ∨ n ∈ out
 | [], out => by simp [allEnds]
 | x :: l, out => by
  rw [List.foldl_cons, topoIfs_mem, ifStep_mem]; simp only [allEnds, List.flatMap_cons, List.mem_append]
  grind
def Laid (l : List Lnk) : Prop := (∀ r n, (r, n) ∈ allEnds l → 1 ≤ n ∧ n ≤ (topoIfs l r).length) ∧ (allEnds l).Nodup
theorem Laid.nil : Laid [] := ⟨fun _ _ h => by simp [allEnds] at h, by simp [allEnds]⟩
def addLink (l : List Lnk) (a b kind : Int) : List Lnk :=
  if (topoIfs l a).length + 1 ≤ 6 ∧ (topoIfs l b).length + 1 ≤ 6 then l ++ [⟨a, (topoIfs l a).length + 1, b, (topoIfs l b).length + 1, kind⟩] else l
theorem Laid.add {l : List Lnk} (h : Laid l) {a b : Int} (kind : Int) (hab : a ≠ b) : Laid (addLink l a b kind) := by
 unfold addLink
 split
 case isFalse => exact h
 case isTrue =>
  have hna : ((topoIfs l a).length + 1 : Int) ∉ topoIfs l a := fun hm => by
   have h1 := (topoIfs_mem (l := l) (out := [])).1 hm; simp only [List.not_mem_nil, or_false] at h1; have := (h.1 _ _ h1).2; omega
  have hnb : ((topoIfs l b).length + 1 : Int) ∉ topoIfs l b := fun hm => by
   have h1 := (topoIfs_mem (l := l) (out := [])).1 hm; simp only [List.not_mem_nil, or_false] at h1; have := (h.1 _ _ h1).2; omega
  have ea : (a, ((topoIfs l a).length + 1 : Int)) ∉ allEnds l := fun hm => by have := (h.1 _ _ hm).2; omega
  have eb : (b, ((topoIfs l b).length + 1 : Int)) ∉ allEnds l := fun hm => by have := (h.1 _ _ hm).2; omega
  have la : (topoIfs (l ++ [⟨a, (topoIfs l a).length + 1, b, (topoIfs l b).length + 1, kind⟩]) a).length = (topoIfs l a).length + 1 := by
   rw [topoIfs_app]; unfold ifStep; simp only [beq_self_eq_true, if_true]; rw [if_neg (by simpa using fun e => hab e.symm)]; exact insInt_new hna
  have lb : (topoIfs (l ++ [⟨a, (topoIfs l a).length + 1, b, (topoIfs l b).length + 1, kind⟩]) b).length = (topoIfs l b).length + 1 := by
   rw [topoIfs_app]; unfold ifStep; simp only [beq_self_eq_true, if_true]; rw [if_neg (by simpa using hab)]; exact insInt_new hnb
  refine ⟨fun r n hm => ?_, ?_⟩
  ·
   rw [allEnds_app, List.mem_append] at hm
   rcases hm with hm | hm
   ·
    have h1 := h.1 r n hm; have h2 := ifStep_more r (topoIfs l r) ⟨a, (topoIfs l a).length + 1, b, (topoIfs l b).length + 1, kind⟩; rw [topoIfs_app]; omega
   ·
    simp only [allEnds, List.flatMap_cons, List.flatMap_nil, List.append_nil, lnkEnds, List.mem_cons, List.not_mem_nil, or_false, Prod.mk.injEq] at hm
    rcases hm with ⟨rfl, rfl⟩ | ⟨rfl, rfl⟩
    ·
     rw [la]; omega
    ·
     rw [lb]; omega
  ·
   rw [allEnds_app, List.nodup_append]; refine ⟨h.2, ?_, fun p hp q hq e => ?_⟩
   ·
    simp [allEnds, lnkEnds, hab]
   ·
    subst e; simp only [allEnds, List.flatMap_cons, List.flatMap_nil, List.append_nil, lnkEnds, List.mem_cons, List.not_mem_nil, or_false] at hq
    rcases hq with rfl | rfl
    ·
     exact ea hp
    ·
     exact eb hp
theorem allEnds_filter (p : Lnk → Bool) : ∀ (l : List Lnk), (allEnds (l.filter p)).Sublist (allEnds l)
 | [] => .refl _
 | x :: l => by
  cases h : p x
  ·
   rw [List.filter_cons_of_neg (by simp [h])]; exact (allEnds_filter p l).trans (List.sublist_append_right _ _)
  ·
   rw [List.filter_cons_of_pos h]; exact (List.Sublist.refl _).append (allEnds_filter p l)
theorem Laid.filter {l : List Lnk} (h : Laid l) (p : Lnk → Bool) : (allEnds (l.filter p)).Nodup := h.2.sublist (allEnds_filter p l)
def lnkOk (t : Topo) (x : Lnk) : Bool :=
  isAs t x.a && isAs t x.b && decide (x.a < x.b) && inR x.ai 1 6 && inR x.bi 1 6 &&
    (if x.kind == 1 then (asAt t x.a).core && (asAt t x.b).core else if x.kind == 2 then ((asAt t x.a).isd == (asAt t x.b).isd) && !(asAt t x.b).core else (x.kind == 3) && !(asAt t x.a).core && !(asAt t x.b).core)
structure TopoOk (t : Topo) : Prop where
  n1 : 1 ≤ t.ases.length
  n8 : t.ases.length ≤ 8
  ok : ∀ x ∈ t.links, lnkOk t x = true
  ends : (allEnds t.links).Nodup
  few : t.links.length ≤ 64
theorem addLink_len (l : List Lnk) (a b k : Int) : (addLink l a b k).length ≤ l.length + 1 := by unfold addLink; split <;> simp
theorem TopoOk.filter {al : List ASd} {l : List Lnk} (h : Laid l) (n1 : 1 ≤ al.length) (n8 : al.length ≤ 8) (hl : l.length ≤ 64) : TopoOk ⟨al, l.filter (lnkOk ⟨al, l⟩)⟩ where
 n1 := n1
 n8 := n8
 ok := fun x hx => by
  have h1 := (List.mem_filter.1 hx).2; exact h1
 ends := h.filter _
 few := Nat.le_trans (List.length_filter_le _ _) hl
theorem TopoOk.isAs0 {t : Topo} (h : TopoOk t) : isAs t 0 = true := by
 have := h.n1; unfold isAs inR; simp; omega
theorem mem_ends {l : List Lnk} {x : Lnk} (hx : x ∈ l) : (x.a, x.ai) ∈ allEnds l ∧ (x.b, x.bi) ∈ allEnds l := by
 unfold allEnds; exact ⟨List.mem_flatMap.2 ⟨x, hx, by simp [lnkEnds]⟩, List.mem_flatMap.2 ⟨x, hx, by simp [lnkEnds]⟩⟩
theorem ifs_end {l : List Lnk} {r n : Int} : n ∈ topoIfs l r ↔ ∃ x ∈ l, (x.a = r ∧ x.ai = n) ∨ (x.b = r ∧ x.bi = n) := by
 have h1 := topoIfs_mem (l := l) (out := []) (r := r) (n := n); simp only [List.not_mem_nil, or_false] at h1; unfold topoIfs; rw [h1]; unfold allEnds lnkEnds; simp only [List.mem_flatMap, List.mem_cons, List.not_mem_nil, or_false, Prod.mk.injEq]
 constructor
 ·
  rintro ⟨x, hx, ⟨e1, e2⟩ | ⟨e1, e2⟩⟩
  ·
   exact ⟨x, hx, .inl ⟨e1.symm, e2.symm⟩⟩
  ·
   exact ⟨x, hx, .inr ⟨e1.symm, e2.symm⟩⟩
 ·
  rintro ⟨x, hx, ⟨e1, e2⟩ | ⟨e1, e2⟩⟩
  ·
   exact ⟨x, hx, .inl ⟨e1.symm, e2.symm⟩⟩
  ·
   exact ⟨x, hx, .inr ⟨e1.symm, e2.symm⟩⟩
theorem usesIf_iff {x : Lnk} {r d : Int} : usesIf x r d = true ↔ (x.a = r ∧ x.ai = d) ∨ (x.b = r ∧ x.bi = d) := by simp [usesIf]
theorem linkFrom_hit {r d : Int} : ∀ {l : List Lnk} {k : Nat}, (∃ x ∈ l, usesIf x r d = true) → ∃ (j : Nat) (x : Lnk), linkFrom r d k l = ((k + j : Nat) : Int) ∧ l[j]? = some x ∧ usesIf x r d = true
 | [], k, h => by obtain ⟨x, hx, _⟩ := h; cases hx
 | y :: l, k, h => by
  cases hy : usesIf y r d
  ·
   obtain ⟨x, hx, hu⟩ := h
   rcases List.mem_cons.1 hx with rfl | hx
   ·
    rw [hy] at hu; cases hu
   ·
    obtain ⟨j, z, h1, h2, h3⟩ := linkFrom_hit (k := k + 1) ⟨x, hx, hu⟩; refine ⟨j + 1, z, ?_, by simpa using h2, h3⟩; unfold linkFrom; rw [hy, h1]
    simp; omega
  ·
   exact ⟨0, y, by unfold linkFrom; rw [hy]; simp, by simp, hy⟩
theorem linkIdx_hit {l : List Lnk} {r d : Int} (h : ∃ x ∈ l, usesIf x r d = true) : ∃ (j : Nat) (x : Lnk), linkIdx l r d = (j : Int) ∧ l[j]? = some x ∧ usesIf x r d = true := by
 obtain ⟨j, x, h1, h2, h3⟩ := linkFrom_hit (k := 0) h; exact ⟨j, x, by unfold linkIdx; rw [h1]; simp, h2, h3⟩
theorem lnkOk_of {t : Topo} {x : Lnk} (h : lnkOk t x = true) : isAs t x.a = true ∧ isAs t x.b = true ∧ x.a < x.b ∧ (1 ≤ x.ai ∧ x.ai ≤ 6) ∧ (1 ≤ x.bi ∧ x.bi ≤ 6) := by
 unfold lnkOk at h; simp only [Bool.and_eq_true, decide_eq_true_eq] at h; obtain ⟨⟨⟨⟨⟨h1, h2⟩, h3⟩, h4⟩, h5⟩, _⟩ := h; exact ⟨h1, h2, h3, inR_true.1 h4, inR_true.1 h5⟩
theorem TopoOk.far {t : Topo} (h : TopoOk t) {r d : Int} (hd : d ∈ topoIfs t.links r) :
  ∃ x ∈ t.links, (x.a = r ∧ x.ai = d ∧ remEnd t r d = (x.b, x.bi)) ∨ (x.b = r ∧ x.bi = d ∧ remEnd t r d = (x.a, x.ai)) := by
 obtain ⟨y, hy, he⟩ := ifs_end.1 hd; obtain ⟨j, x, h1, h2, h3⟩ := linkIdx_hit (l := t.links) (r := r) (d := d) ⟨y, hy, usesIf_iff.2 he⟩; have hm : x ∈ t.links := List.mem_of_getElem? h2; refine ⟨x, hm, ?_⟩
 have hr : remEnd t r d = if (x.a == r) && (x.ai == d) then (x.b, x.bi) else (x.a, x.ai) := by
  unfold remEnd; rw [if_neg (by omega), h1, Int.toNat_natCast, h2]
 obtain ⟨_, _, hab, _⟩ := lnkOk_of (h.ok x hm)
 rcases usesIf_iff.1 h3 with ⟨e1, e2⟩ | ⟨e1, e2⟩
 ·
  exact .inl ⟨e1, e2, by rw [hr]; simp [e1, e2]⟩
 ·
  refine .inr ⟨e1, e2, ?_⟩; rw [hr, if_neg]; have : x.a ≠ r := by omega
  simp [this]
theorem TopoOk.door {t : Topo} (h : TopoOk t) {r d : Int} (hd : d ∈ topoIfs t.links r) : isAs t r = true ∧ (1 ≤ d ∧ d ≤ 6) ∧ isAs t (remEnd t r d).1 = true ∧ (1 ≤ (remEnd t r d).2 ∧ (remEnd t r d).2 ≤ 6) ∧ (remEnd t r d).1 ≠ r := by
 obtain ⟨x, hx, hh⟩ := h.far hd; obtain ⟨h1, h2, h3, h4, h5⟩ := lnkOk_of (h.ok x hx)
 rcases hh with ⟨rfl, rfl, e⟩ | ⟨rfl, rfl, e⟩
 ·
  rw [e]; exact ⟨h1, h4, h2, h5, by show x.b ≠ x.a; omega⟩
 ·
  rw [e]; exact ⟨h2, h5, h1, h4, by show x.a ≠ x.b; omega⟩
theorem isAs_bd {t : Topo} (h : TopoOk t) {r : Int} (hr : isAs t r = true) : 0 ≤ r ∧ r ≤ 7 := by
 have := inR_true.1 hr; have := h.n8; omega
def ifsKind (t : Topo) (r k : Int) : List Int := (topoIfs t.links r).filter (fun d => ifKind t r d == k)
theorem ifsKind_mem {t : Topo} {r k d : Int} (h : d ∈ ifsKind t r k) : d ∈ topoIfs t.links r ∧ ifKind t r d = k := by
 obtain ⟨h1, h2⟩ := List.mem_filter.1 h; exact ⟨h1, by simpa using h2⟩
end
section
def chainAdd (b : Int) (l : List Int) : Int := l.foldl addMod b
def chainSub (b : Int) (l : List Int) : Int := l.foldr (fun x b => subMod b x) b
theorem chainAdd_snoc {b : Int} {l : List Int} {k : Nat} (hk : k < l.length) : chainAdd b (l.take (k + 1)) = addMod (chainAdd b (l.take k)) l[k] := by
 unfold chainAdd; rw [List.take_succ_eq_append_getElem hk, List.foldl_append]; rfl
theorem chainSub_drop {b : Int} {l : List Int} {k : Nat} (hk : k < l.length) : chainSub b (l.drop k) = subMod (chainSub b (l.drop (k + 1))) l[k] := by
 unfold chainSub; rw [List.drop_eq_getElem_cons hk]; rfl
theorem sub_add {b s : Int} (hb : isRes b = true) (hs : isRes s = true) : subMod (addMod b s) s = b := by
 have h := addMod_res b s; rw [subMod_yes h hs, addMod_yes hb hs]; obtain ⟨a1, a2⟩ := isRes_true.1 hb; obtain ⟨a3, a4⟩ := isRes_true.1 hs; omega
theorem add_sub {b s : Int} (hb : isRes b = true) (hs : isRes s = true) : addMod (subMod b s) s = b := by
 have h := subMod_res b s; rw [addMod_yes h hs, subMod_yes hb hs]; obtain ⟨a1, a2⟩ := isRes_true.1 hb; obtain ⟨a3, a4⟩ := isRes_true.1 hs; omega
theorem chainAdd_res (b : Int) (l : List Int) (hb : isRes b = true) : isRes (chainAdd b l) = true := by
 unfold chainAdd
 induction l generalizing b with
 | nil => exact hb
 | cons x l ih => exact ih _ (addMod_res b x)
theorem chain_undone : ∀ (l : List Int) (b : Int), isRes b = true → (∀ x ∈ l, isRes x = true) → chainSub (chainAdd b l) l = b
 | [], b, _, _ => rfl
 | x :: l, b, hb, hl => by
  have h := chain_undone l (addMod b x) (addMod_res b x) (fun y hy => hl y (by simp [hy]))
  show subMod (chainSub (chainAdd (addMod b x) l) l) x = b
  rw [h]; exact sub_add hb (hl x (by simp))
theorem chainAdd_append (b : Int) (l m : List Int) : chainAdd (chainAdd b l) m = chainAdd b (l ++ m) := by unfold chainAdd; rw [List.foldl_append]
theorem digStep_bd (d x : Int) : 0 ≤ digStep d x ∧ digStep d x < 2147483647 := by unfold digStep; omega
theorem digStep_inj {d e x : Int} (hd : 0 ≤ d ∧ d < 2147483647) (he : 0 ≤ e ∧ e < 2147483647) (h : digStep d x = digStep e x) : d = e := by
 unfold digStep at h; generalize x % 2147483647 = c at *; have h1 := Int.emod_eq_emod_iff_emod_sub_eq_zero.1 h; rw [show (d * 1000003 + c + 11) - (e * 1000003 + c + 11) = (d - e) * 1000003 by rw [Int.sub_mul]; omega] at h1; obtain ⟨k, hk⟩ := Int.dvd_of_emod_eq_zero h1; clear h h1; have e1 : (1000003 * 1523789695 : Int) - 2147483647 * 709572 = 1 := by decide
 have h2 : d - e = 2147483647 * (k * 1523789695 - (d - e) * 709572) := by
  generalize d - e = X at *
  calc X = X * ((1000003 * 1523789695 : Int) - 2147483647 * 709572) := by rw [e1, Int.mul_one]
   _ = (X * 1000003) * 1523789695 - 2147483647 * (X * 709572) := by rw [Int.mul_sub, Int.mul_assoc, Int.mul_left_comm X 2147483647]
   _ = 2147483647 * (k * 1523789695 - X * 709572) := by rw [hk, Int.mul_sub, Int.mul_assoc]
 generalize k * 1523789695 - (d - e) * 709572 = m at h2; clear hk e1; omega
theorem digStep_new {d x y : Int} (h : x % 2147483647 ≠ y % 2147483647) : digStep d x ≠ digStep d y := by
 unfold digStep; generalize d * 1000003 = D; omega
theorem dig_apart : ∀ (l : List Int) {d e : Int}, (0 ≤ d ∧ d < 2147483647) → (0 ≤ e ∧ e < 2147483647) → d ≠ e → l.foldl digStep d ≠ l.foldl digStep e
 | [], _, _, _, _, h => h
 | x :: l, d, e, hd, he, h => dig_apart l (digStep_bd d x) (digStep_bd e x) (fun hh => h (digStep_inj hd he hh))
theorem digest_set (l : List Int) (i : Nat) (hi : i < l.length) (y : Int) (h : l[i] % 2147483647 ≠ y % 2147483647) : ∀ (d : Int), (l.set i y).foldl digStep d ≠ l.foldl digStep d := by
 induction l generalizing i with
 | nil => simp at hi
 | cons x l ih =>
  intro d
  cases i with
  | zero =>
   simp only [List.set_cons_zero, List.foldl_cons]; exact dig_apart l (digStep_bd d y) (digStep_bd d x) (fun e => digStep_new h e.symm)
  | succ i =>
   simp only [List.set_cons_succ, List.foldl_cons]; exact ih i (by simpa using hi) (by simpa using h) _
theorem mac_set (k : Int) (l : List Int) (i : Nat) (hi : i < l.length) (y : Int) (h : l[i] % 2147483647 ≠ y % 2147483647) : macOf k (l.set i y) ≠ macOf k l := by
 unfold macOf digest; simp only [List.cons_append, List.nil_append, List.foldl_cons, List.foldl_append]; intro e; have a := digest_set l i hi y h (digStep 7 k)
 have bd : ∀ (l : List Int) (d : Int), (0 ≤ d ∧ d < 2147483647) → 0 ≤ l.foldl digStep d ∧ l.foldl digStep d < 2147483647 := by
  intro l
  induction l with
  | nil => intro d h; exact h
  | cons x l ih => intro d _; exact ih _ (digStep_bd d x)
 simp only [List.foldl_nil] at e; exact a (digStep_inj (bd _ _ (digStep_bd 7 k)) (bd _ _ (digStep_bd 7 k)) e)
end
section
open Go.RowKit
structure Seg where
  ts : Int
  beta : Int
  hops : List Hop
  deriving DecidableEq
def betaAt (s : Seg) (i : Int) : Int := if inR i 0 s.hops.length then chainAdd s.beta ((s.hops.take i.toNat).map (·.mac)) else 0
def sealHop (key ts beta : Int) (h : Hop) : Hop := { h with mac := hopMac key ts beta h }
def asns (l : List Hop) : List Int := l.map (·.asn)
inductive Grown (t : Topo) (kind ts beta : Int) : Int → Int → List Hop → Prop
  | start (r : Int) : isAs t r = true → (asAt t r).core = true → Grown t kind ts beta r 0 []
  | step (r inn out e : Int) (hs : List Hop) : Grown t kind ts beta r inn hs → out ∈ ifsKind t r kind → hasI (asns hs) (remEnd t r out).1 = false → inn ≠ out → ts + 50 ≤ e → e ≤ ts + 99 →
      Grown t kind ts beta (remEnd t r out).1 (remEnd t r out).2 (hs ++ [sealHop (asAt t r).key ts (betaAt ⟨ts, beta, hs⟩ hs.length) ⟨r, inn, out, e, 0⟩])
structure SegDrawn (t : Topo) (kind : Int) (s : Seg) : Prop where
  ts : 0 ≤ s.ts ∧ s.ts ≤ 49
  beta : 0 ≤ s.beta ∧ s.beta ≤ 999999
  len : s.hops.length ≤ 5
  how : (∃ r inn, Grown t kind s.ts s.beta r inn s.hops) ∨ s.hops = [] ∨ ∃ r inn e hs, Grown t kind s.ts s.beta r inn hs ∧ inn ≠ 0 ∧ s.ts + 50 ≤ e ∧ e ≤ s.ts + 99 ∧
    s.hops = hs ++ [sealHop (asAt t r).key s.ts (betaAt ⟨s.ts, s.beta, hs⟩ hs.length) ⟨r, inn, 0, e, 0⟩]
theorem betaAt_pre {ts beta : Int} {hs ms : List Hop} {k : Nat} (hk : k ≤ hs.length) : betaAt ⟨ts, beta, hs ++ ms⟩ k = betaAt ⟨ts, beta, hs⟩ k := by
 unfold betaAt; have h1 : inR (k : Int) 0 ((hs ++ ms).length : Nat) = true := inR_true.2 (by simp; omega); have h2 : inR (k : Int) 0 (hs.length : Nat) = true := inR_true.2 (by omega); simp only [h1, h2, if_true, Int.toNat_natCast]; rw [List.take_append_of_le_length hk]
theorem betaAt_nat {s : Seg} {k : Nat} (hk : k ≤ s.hops.length) : betaAt s k = chainAdd s.beta ((s.hops.take k).map (·.mac)) := by
 unfold betaAt; rw [if_pos (inR_true.2 (by omega)), Int.toNat_natCast]
theorem hopMac_res (k ts b : Int) (h : Hop) : isRes (hopMac k ts b h) = true := by
 have h1 : ∀ (l : List Int) (d : Int), 0 ≤ d ∧ d < 2147483647 → 0 ≤ l.foldl digStep d ∧ l.foldl digStep d < 2147483647 := by
  intro l
  induction l with
  | nil => exact fun d h => h
  | cons x l ih => exact fun d _ => ih _ (digStep_bd d x)
 have h2 := h1 ([k] ++ [ts, b, h.asn, h.ing, h.eg, h.exp] ++ [k]) 7 (by omega); exact inR_true.2 (by unfold hopMac macOf digest; omega)
theorem seal_ok {t : Topo} (T : TopoOk t) {ts b : Int} {h : Hop} (ha : isAs t h.asn = true) (hi : 0 ≤ h.ing ∧ h.ing ≤ 6) (ho : 0 ≤ h.eg ∧ h.eg ≤ 6) (hne : h.ing ≠ h.eg) (he : 0 ≤ h.exp ∧ h.exp ≤ 1000000) :
  verHop t ts b (sealHop (asAt t h.asn).key ts b h) = true := by
 obtain ⟨h0, h7⟩ := isAs_bd T ha; unfold verHop validHop sealHop; simp only [inR_true.2 ⟨h0, h7⟩, inR_true.2 hi, inR_true.2 ho, inR_true.2 he, hopMac_res, ha, Bool.true_and, Bool.and_true, Bool.and_eq_true, bne_iff_ne, ne_eq, beq_iff_eq]; exact ⟨hne, rfl⟩
def Sealed (t : Topo) (ts beta : Int) (hs : List Hop) : Prop := ∀ (k : Nat) (hk : k < hs.length), verHop t ts (betaAt ⟨ts, beta, hs⟩ k) hs[k] = true
theorem Sealed.snoc {t : Topo} {ts beta : Int} {hs : List Hop} (S : Sealed t ts beta hs) {x : Hop} (hx : verHop t ts (betaAt ⟨ts, beta, hs⟩ hs.length) x = true) : Sealed t ts beta (hs ++ [x]) := by
 intro k hk; rw [betaAt_pre (by simp at hk; omega)]
 rcases Nat.lt_or_ge k hs.length with h1 | h1
 ·
  rw [List.getElem_append_left h1]; exact S k h1
 ·
  obtain rfl : k = hs.length := by simp at hk; omega
  simpa using hx
theorem Sealed.nil (t : Topo) (ts beta : Int) : Sealed t ts beta [] := fun _ hk => by cases hk
theorem Grown.good {t : Topo} (T : TopoOk t) {kind ts beta : Int} (h0 : 0 ≤ ts ∧ ts ≤ 49) {r inn : Int} {hs : List Hop} (h : Grown t kind ts beta r inn hs) :
  isAs t r = true ∧ (0 ≤ inn ∧ inn ≤ 6) ∧ Sealed t ts beta hs := by
 induction h with
 | start r h1 _ => exact ⟨h1, by omega, Sealed.nil _ _ _⟩
 | step r inn out e hs _ hout _ hne he1 he2 ih =>
  obtain ⟨i1, i2, i3⟩ := ih; obtain ⟨_, d2, d3, d4, _⟩ := T.door (ifsKind_mem hout).1; exact ⟨d3, by omega, i3.snoc (seal_ok T (h := ⟨r, inn, out, e, 0⟩) i1 i2 (by simp only; omega) hne (by simp only; omega))⟩
theorem SegDrawn.ver {t : Topo} (T : TopoOk t) {kind : Int} {s : Seg} (h : SegDrawn t kind s) : Sealed t s.ts s.beta s.hops := by
 rcases h.how with ⟨r, inn, g⟩ | h1 | ⟨r, inn, e, hs, g, hne, he1, he2, h1⟩
 ·
  exact (g.good T h.ts).2.2
 ·
  rw [h1]; exact Sealed.nil _ _ _
 ·
  obtain ⟨i1, i2, i3⟩ := g.good T h.ts; rw [h1]; exact i3.snoc (seal_ok T (h := ⟨r, inn, 0, e, 0⟩) i1 i2 (by simp only; omega) hne (by have := h.ts; simp only; omega))
theorem isRes_of {n : Int} (h0 : 0 ≤ n) (h1 : n ≤ 999999) : isRes n = true := inR_true.2 (by omega)
def splice (a : Seg) (i : Int) (b : Seg) (j : Int) : Seg := if inR i 0 a.hops.length && inR j 0 b.hops.length then ⟨a.ts, a.beta, a.hops.take i.toNat ++ b.hops.drop j.toNat⟩ else ⟨0, 0, []⟩
def badFrom (t : Topo) (s : Seg) : Nat → Nat → Int
  | 0, _ => -1
  | n + 1, k => if verHop t s.ts (betaAt s k) (hopAt s.hops k) then badFrom t s n (k + 1) else k
def firstBad (t : Topo) (s : Seg) : Int := badFrom t s s.hops.length 0
theorem badFrom_val {t : Topo} {s : Seg} : ∀ {n k : Nat}, badFrom t s n k = -1 ∨ ∃ j : Nat, k ≤ j ∧ j < k + n ∧ badFrom t s n k = j ∧ verHop t s.ts (betaAt s j) (hopAt s.hops j) = false ∧ ∀ i, k ≤ i → i < j → verHop t s.ts (betaAt s i) (hopAt s.hops i) = true
 | 0, k => .inl rfl
 | n + 1, k => by
  unfold badFrom
  cases h : verHop t s.ts (betaAt s k) (hopAt s.hops k)
  ·
   exact .inr ⟨k, Nat.le_refl _, by omega, by simp, h, fun i h1 h2 => by omega⟩
  ·
   rcases badFrom_val (t := t) (s := s) (n := n) (k := k + 1) with h1 | ⟨j, h1, h2, h3, h4, h5⟩
   ·
    exact .inl (by simpa using h1)
   ·
    refine .inr ⟨j, by omega, by omega, by simpa using h3, h4, fun i hi hj => ?_⟩
    rcases Nat.eq_or_lt_of_le hi with e | e
    ·
     rw [← e]; exact h
    ·
     exact h5 i e hj
theorem badFrom_hit {t : Topo} {s : Seg} : ∀ {n k j : Nat}, k ≤ j → j < k + n → (∀ i, k ≤ i → i < j → verHop t s.ts (betaAt s i) (hopAt s.hops i) = true) → verHop t s.ts (betaAt s j) (hopAt s.hops j) = false → badFrom t s n k = j
 | 0, k, j, h1, h2, _, _ => by omega
 | n + 1, k, j, h1, h2, h3, h4 => by
  unfold badFrom
  rcases Nat.eq_or_lt_of_le h1 with e | e
  ·
   subst e; rw [h4]; simp
  ·
   rw [h3 k (Nat.le_refl _) e, if_pos rfl]; exact badFrom_hit e (by omega) (fun i hi hj => h3 i (by omega) hj) h4
theorem hopAt_get {l : List Hop} {k : Nat} (hk : k < l.length) : hopAt l k = l[k] := by unfold hopAt; rw [List.getElem?_eq_getElem hk]
theorem splice_law {t : Topo} {a b : Seg} (S : Sealed t a.ts a.beta a.hops) {k m : Nat} (hk : k ≤ a.hops.length) (hm : m < b.hops.length) :
  if verHop t a.ts (betaAt a k) b.hops[m] = true then firstBad t (splice a k b m) < 0 ∨ (k : Int) < firstBad t (splice a k b m) else firstBad t (splice a k b m) = k := by
 have hs : splice a k b m = ⟨a.ts, a.beta, a.hops.take k ++ b.hops.drop m⟩ := by
  unfold splice; rw [if_pos (by simp only [Bool.and_eq_true, inR_true]; omega), Int.toNat_natCast, Int.toNat_natCast]
 have hl : (a.hops.take k).length = k := by simp; omega
 have hb : ∀ i : Nat, i ≤ k → betaAt ⟨a.ts, a.beta, a.hops.take k ++ b.hops.drop m⟩ i = betaAt a i := by
  intro i hi; rw [betaAt_pre (by omega), betaAt_nat (by rw [hl]; exact hi), betaAt_nat (by omega)]; simp only; rw [List.take_take, Nat.min_eq_left hi]
 have hpre : ∀ i : Nat, i < k → verHop t a.ts (betaAt ⟨a.ts, a.beta, a.hops.take k ++ b.hops.drop m⟩ i) (hopAt (a.hops.take k ++ b.hops.drop m) i) = true := by
  intro i hi; rw [hb i (by omega), hopAt_get (by simp; omega), List.getElem_append_left (by omega), List.getElem_take]; exact S i (by omega)
 have hat : hopAt (a.hops.take k ++ b.hops.drop m) k = b.hops[m] := by
  rw [hopAt_get (by simp; omega), List.getElem_append_right (by omega)]
  simp [hl]
 rw [hs]; have hlen : (a.hops.take k ++ b.hops.drop m).length = k + (b.hops.length - m) := by simp; omega
 unfold firstBad; simp only; rw [hlen]
 split
 case isFalse hv =>
  exact badFrom_hit (Nat.zero_le _) (by omega) (fun i _ hi => hpre i hi) (by simp only; rw [hb k (Nat.le_refl _), hat]; simpa using hv)
 case isTrue hv =>
  rcases badFrom_val (t := t) (s := ⟨a.ts, a.beta, a.hops.take k ++ b.hops.drop m⟩) (n := k + (b.hops.length - m)) (k := 0) with h1 | ⟨j, _, _, h3, h4, _⟩
  ·
   rw [h1]; exact .inl (by omega)
  ·
   rw [h3]
   rcases Nat.lt_trichotomy j k with h5 | h5 | h5
   ·
    simp only at h4; rw [hpre j h5] at h4; cases h4
   ·
    subst h5; simp only at h4; rw [hb j (Nat.le_refl _), hat, hv] at h4; cases h4
   ·
    exact .inr (by omega)
theorem splice_self {a : Seg} {k : Nat} (hk : k ≤ a.hops.length) : splice a k a k = a := by
 unfold splice; rw [if_pos (by simp only [Bool.and_eq_true, inR_true]; omega)]
 simp
end
section
open Go.ChangeShapes Go.WideShapes Go.ChangeAt Go.RowKit Go.Deep
theorem ExtW.out {w w1 : World} (h : ∃ x : ExtW w, w1 = x.w') : Ext w w1 := by obtain ⟨y, rfl⟩ := h; exact y.h
theorem tmod_bd (n : Int) : -2147483647 < n.tmod 2147483647 ∧ n.tmod 2147483647 < 2147483647 := by
 rw [Int.tmod_eq_emod]; split <;> omega
theorem mod_pos (n : Int) : (n.tmod 2147483647 + 2147483647) % 2147483647 = n % 2147483647 := by
 rw [Int.add_emod_right, Int.tmod_eq_emod]
 split <;> omega
theorem mod_pos' (n : Int) : (n.tmod 2147483647 + 2147483647).tmod 2147483647 = n % 2147483647 := by
 have := tmod_bd n; rw [Int.tmod_eq_emod_of_nonneg (by omega)]; exact mod_pos n
theorem digest_snoc {l : List Int} {k : Nat} (hk : k < l.length) : digest (l.take (k + 1)) = digStep (digest (l.take k)) l[k] := by
 unfold digest; rw [List.take_succ_eq_append_getElem hk, List.foldl_append]; rfl
theorem digest_res (l : List Int) : 0 ≤ digest l ∧ digest l ≤ 2147483646 := by
 rcases List.eq_nil_or_concat l with rfl | ⟨l', x, rfl⟩
 ·
  exact ⟨by decide, by decide⟩
 ·
  unfold digest; rw [List.concat_eq_append, List.foldl_append]; exact digStep_res _ x
set_option maxHeartbeats 400000 in
theorem s_Mod (n : Int) (w : World) :
  Calls Tryz.prog 266 #[.int .i64 n, .int .i64 2147483647] w fun e w' => e = .returned (.int .i64 (n % 2147483647)) ∧ w = w' := by
 go_enter Tryz.func266, Tryz.ntmps266

 have hb := tmod_bd n; obtain ⟨hb1, hb2⟩ := hb; have HM := Lib.hid (mod_pos n); have HM2 := Lib.hid (mod_pos' n)
 go_wp2_with (go_at_call 103; refine (s_l1In _ _ _ _).mono ?_; rintro e w' ⟨rfl, rfl⟩)
 all_goals
  first
  | (go_ret; first | exact ⟨ret_int HM.out, rfl⟩ | exact ⟨ret_int HM2.out, rfl⟩)
  | (exfalso; rename_i h; revert h; decide)
set_option maxHeartbeats 1000000 in
theorem s_Digest (l : List Int) (v : Value) (w : World) (hv : RdS Rep.int w v l) :
  Calls Tryz.prog 264 #[v] w fun e w' => e = .returned (.int .i64 (digest l)) ∧ w = w' := by
 obtain ⟨o, cap, rfl, hsm⟩ := hv.shape
 go_enter Tryz.func264, Tryz.ntmps264

 go_wp2
 go_loop [3, 4] (fun d i => ∃ k : Nat, k ≤ l.length ∧ i = .int .i64 k ∧ d = .int .i64 (digest (l.take k))) (fun _ i => l.length - (intOf i).toNat)
 case atStart => exact ⟨0, Nat.zero_le _, rfl, rfl⟩
 case round =>
  obtain ⟨k, hk, rfl, rfl⟩ := hrel
  by_cases hlt : k < l.length
  ·
   obtain ⟨b, off, rfl, hc⟩ := ints_at hv k hlt; have HS := Lib.hid (digest_snoc hlt); obtain ⟨d1, d2⟩ := digest_res (l.take k); generalize digest (l.take k) = d at *
   go_wp2_with fail
   refine (s_Mod l[k] _).mono ?_; rintro e w' ⟨rfl, rfl⟩; have hm1 : 0 ≤ l[k] % 2147483647 := by omega
   have hm2 : l[k] % 2147483647 < 2147483647 := by omega
   go_wp2_with fail
   go_round
   case rel => exact ⟨k + 1, by omega, by go_num, by rw [HS.out]; rfl⟩
   case measure => simp [intOf]; omega
  ·
   go_wp2
   go_ret
   exact ⟨ret_int (by rw [List.take_of_length_le (by omega)]), rfl⟩
set_option maxHeartbeats 1000000 in
theorem s_ComputeMAC (key : Int) (l : List Int) (v : Value) (w : World) (hv : RdS Rep.int w v l) (hl : l.length ≤ 1048576) :
  Calls Tryz.prog 261 #[.int .i64 key, v] w fun e w' => e = .returned (.int .i64 (macOf key l)) ∧ Ext w w' := by
 obtain ⟨E⟩ := elemInt; obtain ⟨o, cap, rfl, hsm⟩ := hv.shape; have h1 : Ext w (w.alloc (.cells #[.int .i64 key] 3)) := (Ext.refl _).alloc _; have ho1 := OwnF.lit (f := intF) intFlen w.heap.size 3 w [key] (Nat.le_refl _) (by simp [maxLen]); have hr1 := hv.ext h1
 go_enter Tryz.func261, Tryz.ntmps261

 go_wp2_with (at_builtin; refine appS E intFlen intOne rfl _ _ rfl l rfl ho1 rfl hr1 (by simp; omega) (by simp [maxLen]; omega) (by simp) ?_)
 intro v2 w2 ho2 hg2; have h2 : Ext w w2 := h1.app hg2 ho1 (Nat.le_refl _); have h3 : Ext w2 (w2.alloc (.cells #[.int .i64 key] 3)) := (Ext.refl _).alloc _; clear hg2 hr1
 go_wp2_with (at_builtin; refine app1 E intFlen intOne rfl _ _ rfl key rfl (ho2.ext h3) rfl (by exact blk_list (intF key) (blk_new w2 _)) (by simp; omega) (by simp [maxLen]; omega) (by exact (h2.trans h3).size) ?_)
 intro v4 w4 ho4 hg4; have h4 : Ext w w4 := (h2.trans h3).app hg4 ho2 (Nat.le_refl _); clear hg4
 go_wp2_with fail
 refine (s_Digest _ _ _ (ints_rep ho4)).mono ?_; rintro e w5 ⟨rfl, rfl⟩
 go_wp2_with fail
 go_ret
 exact ⟨rfl, h4⟩
set_option maxHeartbeats 400000 in
theorem s_HopMAC (key ts beta : Int) (h : Hop) (w : World) :
  Calls Tryz.prog 253 #[.int .i64 key, .int .i64 ts, .int .i64 beta, .agg #[.int .i64 h.asn, .int .i64 h.ing, .int .i64 h.eg, .int .i64 h.exp, .int .i64 h.mac]] w fun e w' => e = .returned (.int .i64 (hopMac key ts beta h)) ∧ Ext w w' := by
 have h1 : Ext w (w.alloc (.cells #[.int .i64 h.asn, .int .i64 h.ing, .int .i64 h.eg, .int .i64 h.exp, .int .i64 h.mac] 71)) := (Ext.refl _).alloc _; have ho1 := OwnF.lit (f := intF) intFlen 0 3 (w.alloc (.cells #[.int .i64 h.asn, .int .i64 h.ing, .int .i64 h.eg, .int .i64 h.exp, .int .i64 h.mac] 71)) [ts, beta, h.asn, h.ing, h.eg, h.exp] (Nat.zero_le _) (by simp [maxLen]); have h2 := h1.alloc (.cells #[.int .i64 ts, .int .i64 beta, .int .i64 h.asn, .int .i64 h.ing, .int .i64 h.eg, .int .i64 h.exp] 3)
 have hr : RdS Rep.int ((w.alloc (.cells #[.int .i64 h.asn, .int .i64 h.ing, .int .i64 h.eg, .int .i64 h.exp, .int .i64 h.mac] 71)).alloc (.cells #[.int .i64 ts, .int .i64 beta, .int .i64 h.asn, .int .i64 h.ing, .int .i64 h.eg, .int .i64 h.exp] 3)) (.slice (some ⟨w.heap.size + 1, 0, none⟩) 6 6) [ts, beta, h.asn, h.ing, h.eg, h.exp] := by
  have h := ints_rep ho1; rw [nblk_alloc] at h; exact h
 clear ho1
 go_enter Tryz.func253, Tryz.ntmps253

 go_wp2_with fail
 refine (s_ComputeMAC key [ts, beta, h.asn, h.ing, h.eg, h.exp] _ _ hr (by simp)).mono ?_; rintro e w3 ⟨rfl, h3⟩
 go_wp2_with fail
 go_ret
 exact ⟨rfl, h2.trans h3⟩
set_option maxHeartbeats 1000000 in
theorem s_ValidHop (h : Hop) (w : World) :
  Calls Tryz.prog 251 #[.agg #[.int .i64 h.asn, .int .i64 h.ing, .int .i64 h.eg, .int .i64 h.exp, .int .i64 h.mac]] w fun e w' => e = .returned (.bool (validHop h)) ∧ Ext w w' := by
 go_enter Tryz.func251, Tryz.ntmps251

 go_wp2_with (first | (go_at_call 103; refine (s_l1In _ _ _ _).mono ?_; rintro e w' ⟨rfl, rfl⟩) | (go_at_call 182; refine (s_l3Ok _ _).mono ?_; rintro e w' ⟨rfl, rfl⟩))
 all_goals
  go_ret
  refine ⟨ret_bool ?_, (Ext.refl _).alloc _⟩
  simp [validHop, *]
set_option maxHeartbeats 400000 in
theorem s_l5Realm (t : Topo) (v1 v2 : Value) (r : Int) (w : World) (ha : RdS ASd.rep w v1 t.ases) :
  Calls Tryz.prog 212 #[.agg #[v1, v2], .int .i64 r] w fun e w' => e = .returned (.bool (isAs t r)) ∧ Ext w w' := by
 obtain ⟨o, cap, rfl, hsm⟩ := ha.shape
 go_enter Tryz.func212, Tryz.ntmps212

 go_wp2_with (go_at_call 103; refine (s_l1In _ _ _ _).mono ?_; rintro e w' ⟨rfl, rfl⟩)
 go_ret
 exact ⟨rfl, (Ext.refl _).alloc _⟩
set_option maxRecDepth 100000 in
set_option maxHeartbeats 2000000 in
theorem s_VerifyHop (t : Topo) (v1 v2 : Value) (ts beta : Int) (h : Hop) (w : World) (ha : RdS ASd.rep w v1 t.ases) :
  Calls Tryz.prog 227 #[.agg #[v1, v2], .int .i64 ts, .int .i64 beta, .agg #[.int .i64 h.asn, .int .i64 h.ing, .int .i64 h.eg, .int .i64 h.exp, .int .i64 h.mac]] w fun e w' => e = .returned (.bool (verHop t ts beta h)) ∧ Ext w w' := by
 obtain ⟨o, cap, rfl, hsm⟩ := ha.shape; have hx0 := ext2 w (.cells #[.slice o t.ases.length cap, v2] 56) (.cells #[.int .i64 h.asn, .int .i64 h.ing, .int .i64 h.eg, .int .i64 h.exp, .int .i64 h.mac] 71); have HB := Lib.hid (al2 w (.cells #[.slice o t.ases.length cap, v2] 56) (.cells #[.int .i64 h.asn, .int .i64 h.ing, .int .i64 h.eg, .int .i64 h.exp, .int .i64 h.mac] 71))
 go_enter Tryz.func227, Tryz.ntmps227

 go_wp2
 have hc1 := blk2 HB.out.1; have hc2 := blk5 HB.out.2
 cases h1 : validHop h
 ·
  have HE := Lib.hid (show verHop t ts beta h = false by unfold verHop; rw [h1]; rfl); refine wp_region_ext (by kernel_rfl) (by kernel_rfl) ?_; have q0 := ExtW.cell (hc1.1); have q1 := ExtW.cell (hc1.2); have q2 := ExtW.cell (hc2.1); have q3 := ExtW.cell (hc2.2.1); have q4 := ExtW.cell (hc2.2.2.1); have q5 := ExtW.cell (hc2.2.2.2.1); have q6 := ExtW.cell (hc2.2.2.2.2)
  repeat (first | go_big_quiet_step (((first | (go_at_call 251; exact Calls.ext_of (s_ValidHop h _))))) | quiet_step (((first | (go_at_call 251; exact Calls.ext_of (s_ValidHop h _))))))
  refine wpQuiet_nil ?_; intro w9 hw9; have h9 := ExtW.out hw9; clear hw9 q0 q1 q2 q3 q4 q5 q6; clear hc1 hc2
  go_wp2_with fail
  go_ret
  exact ⟨ret_bool HE.out.symm, hx0.trans h9⟩
 ·
  cases h2 : isAs t h.asn
  ·
   have HE := Lib.hid (show verHop t ts beta h = false by unfold verHop; rw [h1, h2]; rfl); refine wp_region_ext (by kernel_rfl) (by kernel_rfl) ?_; have q0 := ExtW.cell (hc1.1); have q1 := ExtW.cell (hc1.2); have q2 := ExtW.cell (hc2.1); have q3 := ExtW.cell (hc2.2.1); have q4 := ExtW.cell (hc2.2.2.1); have q5 := ExtW.cell (hc2.2.2.2.1); have q6 := ExtW.cell (hc2.2.2.2.2)
   repeat (first | go_big_quiet_step (((first | (go_at_call 251; exact Calls.ext_of (s_ValidHop h _)) | (go_at_call 212; exact Calls.ext_of (s_l5Realm t _ _ h.asn _ ((ha.ext hx0).ext (ExtW.h _))))))) | quiet_step (((first | (go_at_call 251; exact Calls.ext_of (s_ValidHop h _)) | (go_at_call 212; exact Calls.ext_of (s_l5Realm t _ _ h.asn _ ((ha.ext hx0).ext (ExtW.h _))))))))
   refine wpQuiet_nil ?_; intro w9 hw9; have h9 := ExtW.out hw9; clear hw9 q0 q1 q2 q3 q4 q5 q6; clear hc1 hc2
   go_wp2_with fail
   go_ret
   exact ⟨ret_bool HE.out.symm, hx0.trans h9⟩
  ·
   obtain ⟨hp1, hp2⟩ := isAs_lt h2; have HE := Lib.hid (show verHop t ts beta h = (h.mac == hopMac t.ases[h.asn.toNat].key ts beta h) by unfold verHop; rw [h1, h2, asAt_at hp1 hp2]; rfl); obtain ⟨b, off, rfl, hc⟩ := ASd.at (ha.ext hx0) h.asn.toNat hp2; have hp3 : h.asn < t.ases.length := by omega
   refine wp_region_ext (by kernel_rfl) (by kernel_rfl) ?_; have q0 := ExtW.cell (hc1.1); have q1 := ExtW.cell (hc1.2); have q2 := ExtW.cell (hc2.1); have q3 := ExtW.cell (hc2.2.1); have q4 := ExtW.cell (hc2.2.2.1); have q5 := ExtW.cell (hc2.2.2.2.1); have q6 := ExtW.cell (hc2.2.2.2.2); have q7 := ExtW.cell (hc.1); have q8 := ExtW.cell (hc.2.1); have q9 := ExtW.cell (hc.2.2)
   repeat (first | go_big_quiet_step (((first | (go_at_call 251; exact Calls.ext_of (s_ValidHop h _)) | (go_at_call 212; exact Calls.ext_of (s_l5Realm t _ _ h.asn _ ((ha.ext hx0).ext (ExtW.h _)))) | (go_at_call 253; exact Calls.ext_of (s_HopMAC _ _ _ h _))))) | quiet_step (((first | (go_at_call 251; exact Calls.ext_of (s_ValidHop h _)) | (go_at_call 212; exact Calls.ext_of (s_l5Realm t _ _ h.asn _ ((ha.ext hx0).ext (ExtW.h _)))) | (go_at_call 253; exact Calls.ext_of (s_HopMAC _ _ _ h _))))))
   refine wpQuiet_nil ?_; intro w9 hw9; have h9 := ExtW.out hw9; clear hw9 q0 q1 q2 q3 q4 q5 q6 q7 q8 q9; clear hc1 hc2
   go_wp2_with fail
   go_ret
   exact ⟨ret_bool HE.out.symm, hx0.trans h9⟩
end
section
open Go.ChangeShapes Go.WideShapes Go.ChangeAt Go.RowKit Go.Deep
set_option maxRecDepth 100000 in
set_option maxHeartbeats 1000000 in
theorem s_ChainAdd (b : Int) (l : List Int) (v : Value) (w : World) (hv : RdS Rep.int w v l) :
  Calls Tryz.prog 256 #[.int .i64 b, v] w fun e w' => e = .returned (.int .i64 (chainAdd b l)) ∧ w = w' := by
 obtain ⟨o, cap, rfl, hsm⟩ := hv.shape
 go_enter Tryz.func256, Tryz.ntmps256
 go_wp2
 go_loopg [0, 5] l.length (fun gk bb i wr => ∃ (k : Nat), gk + k = l.length ∧ i = .int .i64 k ∧ bb = .int .i64 (chainAdd b (l.take k)) ∧ w = wr)
 case atStart => exact ⟨0, rfl, rfl, rfl, rfl⟩
 case round =>
  obtain ⟨k, hgk, rfl, rfl, rfl⟩ := hrel
  by_cases hlt : k < l.length
  ·
   obtain ⟨b1, off, rfl, hcell⟩ := ints_at hv k hlt; have hg0 : gk - 1 + (k + 1) = l.length ∧ gk - 1 < gk := by omega
   have HG := Lib.hid hg0; clear hg0 hgk; have HN := Lib.hid (chainAdd_snoc (b := b) hlt)
   go_wp2_with fail
   refine (s_AddMod _ _ _).mono ?_; rintro e w1 ⟨rfl, rfl⟩
   go_wp2_with fail
   go_roundg (gk - 1)
   case measure => exact HG.out.2
   case rel => exact ⟨k + 1, HG.out.1, by go_num, by rw [HN.out], rfl⟩
  ·
   have HE := Lib.hid (show chainAdd b (l.take k) = chainAdd b l by rw [List.take_of_length_le (by omega)])
   go_wp2_with fail
   go_ret
   exact ⟨ret_int HE.out, rfl⟩
end
end Go.Proofs.YtcpfmhgfaliemaaGreat
