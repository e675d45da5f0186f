/- What these laws need: FnNotes: Contracts of the far ends of links, of rows of hop fields and of parts, program and reference. Contracts of kinds of interfaces, of steps that are allowed, and of members of a set, program and reference. The walk of a packet, as a plain function. The steps of a path, once more: from a place in it on, hop by hop. What a packet's walk does on a well-formed path: its steps are the path's steps from its place on, as far as it comes. A packet's whole walk: its steps are a first part of the path's steps from its place on; it ends; each step is of an AS that had a valid hop for it. -/
import Derived.Test.YtcpfmhgfaliemaaGreatKM8
import Derived.Test.YtcpfmhgfaliemaaGreatKM12
namespace Go.Proofs.YtcpfmhgfaliemaaGreat
section
open Go.ChangeShapes Go.WideShapes Go.ChangeAt Go.RowKit Go.Deep
theorem remEnd_no {t : Topo} {r d : Int} (h : linkIdx t.links r d < 0) : remEnd t r d = (-1, 0) := if_pos h
theorem remEnd_at {t : Topo} {r d : Int} (h : ¬ linkIdx t.links r d < 0) (hl : (linkIdx t.links r d).toNat < t.links.length) :
  remEnd t r d = if (t.links[(linkIdx t.links r d).toNat].a == r) && (t.links[(linkIdx t.links r d).toNat].ai == d) then (t.links[(linkIdx t.links r d).toNat].b, t.links[(linkIdx t.links r d).toNat].bi) else (t.links[(linkIdx t.links r d).toNat].a, t.links[(linkIdx t.links r d).toNat].ai) := by
 unfold remEnd; rw [if_neg h, List.getElem?_eq_getElem hl]
theorem ret_pair {a b : Int} {x : Int × Int} (h : x = (a, b)) : Ending.returned (.tuple #[.int .i64 a, .int .i64 b]) = .returned (.tuple #[.int .i64 x.1, .int .i64 x.2]) := by rw [h]
set_option maxHeartbeats 1000000 in
theorem s_RemoteEnd (t : Topo) (v1 v2 : Value) (r d : Int) (w : World) (hk : RdS Lnk.rep w v2 t.links) :
  Calls Tryz.prog 140 #[.agg #[v1, v2], .int .i64 r, .int .i64 d] w fun e w' => e = .returned (.tuple #[.int .i64 (remEnd t r d).1, .int .i64 (remEnd t r d).2]) ∧ Ext w w' := by
 obtain ⟨o, cap, rfl, hsm⟩ := hk.shape; have hx0 : Ext w (w.alloc (.cells #[v1, .slice o t.links.length cap] 56)) := (Ext.refl _).alloc _; have HB0 := Lib.hid (blk_new w (.cells #[v1, .slice o t.links.length cap] 56))
 go_enter Tryz.func140, Tryz.ntmps140
 have cf1 := blk2 HB0.out
 go_wp2_with fail
 refine (s_LinkIndex t _ _ r d _ (hk.ext hx0)).mono ?_; rintro e w1 ⟨rfl, hz1⟩; have hil := linkIdx_lt t.links r d
 by_cases hn : linkIdx t.links r d < 0
 ·
  have HE := Lib.hid (remEnd_no hn)
  try clear cf1
  have cf2 := blk2 (Ext.block hz1 HB0.out)
  go_wp2_with fail
  go_ret2
  exact ⟨ret_pair HE.out, (hx0.t hz1)⟩
 ·
  have hin : (linkIdx t.links r d).toNat < t.links.length := by omega
  have HE := Lib.hid (remEnd_at hn hin); have hn0 : 0 ≤ linkIdx t.links r d := by omega
  obtain ⟨b, off, rfl, hc⟩ := Lnk.at (hk.ext (hx0.t hz1)) _ hin; generalize linkIdx t.links r d = i at *; generalize t.links[i.toNat] = x at *
  try clear cf1
  have cf3 := blk2 (Ext.block hz1 HB0.out); have hx1 : Ext w1 (w1.alloc (.cells #[.int .i64 x.a, .int .i64 x.ai, .int .i64 x.b, .int .i64 x.bi, .int .i64 x.kind] 156)) := (Ext.refl _).alloc _; have HB1 := Lib.hid (blk_new w1 (.cells #[.int .i64 x.a, .int .i64 x.ai, .int .i64 x.b, .int .i64 x.bi, .int .i64 x.kind] 156))
  cases b1 : (x.a == r) <;> cases b2 : (x.ai == d)
  all_goals
   go_wp2_with fail
   have cl := blk5 HB1.out; refine wp_region_ext (by kernel_rfl) (by kernel_rfl) ?_; have q0 := ExtW.cell (cl.1); have q1 := ExtW.cell (cl.2.1); have q2 := ExtW.cell (cl.2.2.1); have q3 := ExtW.cell (cl.2.2.2.1); have q4 := ExtW.cell (cl.2.2.2.2)
   repeat (first | go_big_quiet_step (fail) | quiet_step (fail))
   refine wpQuiet_nil ?_; intro w9 hw9; have h9 := ExtW.out hw9; clear hw9 q0 q1 q2 q3 q4 cl
   go_wp2_with fail
   go_ret2
   exact ⟨ret_pair (by rw [HE.out, b1, b2]; rfl), ((hx0.t hz1).t hx1).trans h9⟩
end
section
open Go.ChangeShapes Go.WideShapes Go.ChangeAt Go.RowKit Go.Deep
theorem ifKind_at {t : Topo} {r d : Int} (hd : (d == 0) = false) (h : ¬ linkIdx t.links r d < 0) (hl : (linkIdx t.links r d).toNat < t.links.length) :
  ifKind t r d = (if t.links[(linkIdx t.links r d).toNat].kind == 1 then 1 else if t.links[(linkIdx t.links r d).toNat].kind == 3 then 4 else if t.links[(linkIdx t.links r d).toNat].kind == 2 then (if (t.links[(linkIdx t.links r d).toNat].a == r) && (t.links[(linkIdx t.links r d).toNat].ai == d) then 2 else 3) else 0) := by
 unfold ifKind; rw [hd, if_neg (by decide), if_neg h, List.getElem?_eq_getElem hl]
set_option maxHeartbeats 2000000 in
theorem s_InterfaceKind (t : Topo) (v1 v2 : Value) (r d : Int) (w : World) (hk : RdS Lnk.rep w v2 t.links) :
  Calls Tryz.prog 188 #[.agg #[v1, v2], .int .i64 r, .int .i64 d] w fun e w' => e = .returned (.int .i64 (ifKind t r d)) ∧ Ext w w' := by
 obtain ⟨o, cap, rfl, hsm⟩ := hk.shape; have hx0 : Ext w (w.alloc (.cells #[v1, .slice o t.links.length cap] 56)) := (Ext.refl _).alloc _; have HB0 := Lib.hid (blk_new w (.cells #[v1, .slice o t.links.length cap] 56))
 go_enter Tryz.func188, Tryz.ntmps188
 cases b0 : (d == 0)
 ·
  have cf1 := blk2 HB0.out
  go_wp2_with fail
  refine (s_LinkIndex t _ _ r d _ (hk.ext hx0)).mono ?_; rintro e w1 ⟨rfl, hz1⟩; have hil := linkIdx_lt t.links r d
  by_cases hn : linkIdx t.links r d < 0
  ·
   have HE := Lib.hid (show ifKind t r d = 0 by unfold ifKind; rw [b0, if_neg (by decide), if_pos hn])
   try clear cf1
   have cf2 := blk2 (Ext.block hz1 HB0.out)
   go_wp2_with fail
   go_ret
   exact ⟨ret_int HE.out.symm, (hx0.t hz1)⟩
  ·
   have hin : (linkIdx t.links r d).toNat < t.links.length := by omega
   have HE := Lib.hid (ifKind_at b0 hn hin); have hn0 : 0 ≤ linkIdx t.links r d := by omega
   obtain ⟨b, off, rfl, hc⟩ := Lnk.at (hk.ext (hx0.t hz1)) _ hin; generalize linkIdx t.links r d = i at *; generalize t.links[i.toNat] = x at *
   try clear cf1
   have cf3 := blk2 (Ext.block hz1 HB0.out); have hxl := (hx0.t hz1).alloc (.cells #[.int .i64 x.a, .int .i64 x.ai, .int .i64 x.b, .int .i64 x.bi, .int .i64 x.kind] 156)
   cases b1 : (x.kind == 1) <;> cases b2 : (x.kind == 3) <;> cases b3 : (x.kind == 2) <;> cases b4 : (x.a == r) <;> cases b5 : (x.ai == d)
   all_goals
    have b3' : (x.kind != 2) = !(x.kind == 2) := rfl; rw [b3] at b3'
    first | replace b3' : (x.kind != 2) = true := b3' | replace b3' : (x.kind != 2) = false := b3'
    go_wp2_with fail
    go_ret
    exact ⟨ret_int (by rw [HE.out, b1, b2, b3, b4, b5]; rfl), hxl⟩
 ·
  have HE := Lib.hid (show ifKind t r d = 5 by unfold ifKind; rw [b0]; rfl); have cf4 := blk2 HB0.out
  go_wp2_with fail
  go_ret
  exact ⟨ret_int HE.out.symm, hx0⟩
end
section
open Go.RowKit
def trav (t : Topo) (now : Int) (dead : List Int) : Nat → Int → Int → Pkt → List Step → Trc
  | 0, _, _, x, l => ⟨0, l, x⟩
  | f + 1, r, inn, x, l =>
    if (forward t r now (failedIfs t dead r) inn x).code = 0 then trav t now dead f (remEnd t r (forward t r now (failedIfs t dead r) inn x).eg).1 (remEnd t r (forward t r now (failedIfs t dead r) inn x).eg).2 (forward t r now (failedIfs t dead r) inn x).pkt (l ++ [⟨r, inn, (forward t r now (failedIfs t dead r) inn x).eg⟩])
    else if (forward t r now (failedIfs t dead r) inn x).code = 1 then ⟨1, l ++ [⟨r, inn, (forward t r now (failedIfs t dead r) inn x).eg⟩], (forward t r now (failedIfs t dead r) inn x).pkt⟩
    else ⟨(forward t r now (failedIfs t dead r) inn x).code, l, (forward t r now (failedIfs t dead r) inn x).pkt⟩
def traverse (t : Topo) (now : Int) (dead : List Int) (x : Pkt) : Trc := trav t now dead 30 x.src 0 x []
theorem trav_go {t : Topo} {now : Int} {dead : List Int} {f : Nat} {r inn eg : Int} {x z : Pkt} {l : List Step} (hv : forward t r now (failedIfs t dead r) inn x = ⟨0, eg, z⟩) :
  trav t now dead (f + 1) r inn x l = trav t now dead f (remEnd t r eg).1 (remEnd t r eg).2 z (l ++ [⟨r, inn, eg⟩]) := by simp [trav, hv]
theorem trav_del {t : Topo} {now : Int} {dead : List Int} {f : Nat} {r inn eg : Int} {x z : Pkt} {l : List Step} (hv : forward t r now (failedIfs t dead r) inn x = ⟨1, eg, z⟩) :
  trav t now dead (f + 1) r inn x l = ⟨1, l ++ [⟨r, inn, eg⟩], z⟩ := by simp [trav, hv]
theorem trav_bad {t : Topo} {now : Int} {dead : List Int} {f : Nat} {r inn cd eg : Int} {x z : Pkt} {l : List Step} (hv : forward t r now (failedIfs t dead r) inn x = ⟨cd, eg, z⟩) (h0 : ¬ cd = 0) (h1 : ¬ cd = 1) :
  trav t now dead (f + 1) r inn x l = ⟨cd, l, z⟩ := by simp [trav, hv, h0, h1]
end
section
open Go.RowKit
def wHops (cont : Int → Int → Hop → List Step) (k : Int) : Int → List Hop → List Step
  | _, [] => []
  | inn, [h] => cont k inn h
  | inn, h :: h' :: hs => ⟨h.asn, inn, hopEg k h⟩ :: wHops cont k (hopIn k h') (h' :: hs)
def wParts (z : Int → Hop → Int) : List Part → Int → Int → Hop → List Step
  | [], k, inn, h => [⟨h.asn, inn, z k h⟩]
  | p :: ps, _, inn, _ => wHops (wParts z ps) p.kind inn p.hops
def rawHops (k inn : Int) : List Hop → List Step
  | [] => []
  | h :: hs => ⟨h.asn, inn, hopEg k h⟩ :: hs.map (stepOf k)
def lastHop (h : Hop) (hs : List Hop) : Hop := (h :: hs).getLast (by simp)
theorem raw_split (k : Int) : ∀ (hs : List Hop) (h : Hop) (inn : Int), ∃ (Y : List Step) (il : Int), rawHops k inn (h :: hs) = Y ++ [⟨(lastHop h hs).asn, il, hopEg k (lastHop h hs)⟩] ∧ ∀ cont, wHops cont k inn (h :: hs) = Y ++ cont k il (lastHop h hs)
 | [], h, inn => ⟨[], inn, rfl, fun _ => rfl⟩
 | h1 :: hs, h, inn => by
  obtain ⟨Y, il, e1, e2⟩ := raw_split k hs h1 (hopIn k h1); refine ⟨⟨h.asn, inn, hopEg k h⟩ :: Y, il, ?_, fun cont => ?_⟩
  ·
   show (⟨h.asn, inn, hopEg k h⟩ : Step) :: rawHops k (hopIn k h1) (h1 :: hs) = _
   rw [e1]; rfl
  ·
   show (⟨h.asn, inn, hopEg k h⟩ : Step) :: wHops cont k (hopIn k h1) (h1 :: hs) = _
   rw [e2]; rfl
theorem hopsTo_join (k : Int) (X : List Step) (s : Step) (h : Hop) (hs : List Hop) (he : s.asn = h.asn) : ∀ i ≤ hs.length, hopsTo true k (X ++ [s]) (h :: hs) (i + 1) = X ++ (⟨h.asn, s.ing, hopEg k h⟩ :: (hs.take i).map (stepOf k))
 | 0, _ => by
  rw [hopsTo_succ (by simp)]; have hm : mergeB (true && (0 : Nat) == 0) (X ++ [s]) h = true := by simp [mergeB, he]
  show stepOne (true && (0 : Nat) == 0) k (X ++ [s]) h = _
  rw [stepOne_yes2 hm (by simp)]
  simp
 | i + 1, hi => by
  rw [hopsTo_succ (by simp; omega), hopsTo_join k X s h hs he i (by omega)]; rw [stepOne_no (by simp [mergeB])]; rw [List.take_succ_eq_append_getElem (by omega), List.map_append]; simp only [List.append_assoc, List.cons_append, List.getElem_cons_succ]; rfl
theorem hopsTo_first (k : Int) (hs : List Hop) : ∀ i ≤ hs.length, hopsTo false k [] hs i = (hs.take i).map (stepOf k)
 | 0, _ => by simp [hopsTo]
 | i + 1, hi => by
  rw [hopsTo_succ (by omega), hopsTo_first k hs i (by omega), stepOne_no (by simp [mergeB]), List.take_succ_eq_append_getElem (by omega), List.map_append]; rfl
def partsGo (out : List Step) : List Part → List Step
  | [] => out
  | p :: ps => partsGo (hopsTo true p.kind out p.hops p.hops.length) ps
theorem partsTo_go : ∀ (ps pre : List Part), 0 < pre.length → partsTo (pre ++ ps) (pre.length + ps.length) = partsGo (partsTo (pre ++ ps) pre.length) ps
 | [], pre, _ => by simp [partsGo]
 | p :: ps, pre, hp => by
  have h1 := partsTo_go ps (pre ++ [p]) (by simp)
  have hs : partsTo (pre ++ p :: ps) (pre.length + 1) = hopsTo true p.kind (partsTo (pre ++ p :: ps) pre.length) p.hops p.hops.length := by
   rw [partsTo_succ (by simp)]
   simp [hp]
  rw [List.append_assoc, List.singleton_append, List.length_append, List.length_singleton] at h1; rw [show pre.length + (p :: ps).length = pre.length + 1 + ps.length by simp; omega, h1, hs]; rfl
def chain : Hop → List Part → Prop
  | _, [] => True
  | h, p :: ps => ∃ h0 hs, p.hops = h0 :: hs ∧ h0.asn = h.asn ∧ chain (lastHop h0 hs) ps
theorem go_raw : ∀ (ps : List Part) (X : List Step) (h : Hop) (k inn : Int), chain h ps → partsGo (X ++ [⟨h.asn, inn, hopEg k h⟩]) ps = X ++ wParts hopEg ps k inn h
 | [], _, _, _, _, _ => rfl
 | p :: ps, X, h, k, inn, hc => by
  obtain ⟨h0, hs, hp, ha, hc2⟩ := hc; unfold partsGo wParts; rw [hp]; have e := hopsTo_join p.kind X ⟨h.asn, inn, hopEg k h⟩ h0 hs ha.symm hs.length (Nat.le_refl _); rw [List.length_cons, e, List.take_length]
  show partsGo (X ++ rawHops p.kind inn (h0 :: hs)) ps = _
  obtain ⟨Y, il, e1, e2⟩ := raw_split p.kind hs h0 inn; rw [e1, e2, ← List.append_assoc, go_raw ps (X ++ Y) _ p.kind il hc2, List.append_assoc]
theorem parts_raw (p : Part) (ps : List Part) (h0 : Hop) (hs : List Hop) (hp : p.hops = h0 :: hs) (hc : chain (lastHop h0 hs) ps) : partsTo (p :: ps) (p :: ps).length = wHops (wParts hopEg ps) p.kind (hopIn p.kind h0) (h0 :: hs) := by
 have h := partsTo_go ps [p] (by simp); rw [List.singleton_append, List.length_singleton] at h; rw [show (p :: ps).length = 1 + ps.length by simp; omega, h, partsTo_succ (by simp)]
 show partsGo (hopsTo false p.kind [] p.hops p.hops.length) ps = _
 rw [hopsTo_first p.kind p.hops _ (Nat.le_refl _), List.take_length, hp]
 show partsGo (rawHops p.kind (hopIn p.kind h0) (h0 :: hs)) ps = _
 obtain ⟨Y, il, e1, e2⟩ := raw_split p.kind hs h0 (hopIn p.kind h0); rw [e1, e2, go_raw ps Y _ p.kind il hc]
theorem endsIn_cons (s : Step) (l : List Step) : endsIn (s :: l) = ⟨s.asn, 0, s.eg⟩ :: l := by simp [endsIn]
theorem endsEg_one (s : Step) : endsEg [s] = [⟨s.asn, s.ing, 0⟩] := by simp [endsEg]
theorem endsEg_cons (s : Step) (l : List Step) (h : l ≠ []) : endsEg (s :: l) = s :: endsEg l := by
 cases l with
 | nil => exact absurd rfl h
 | cons a l => simp [endsEg]
theorem wHops_ne {cont : Int → Int → Hop → List Step} (hc : ∀ k i h, cont k i h ≠ []) {k inn : Int} {h : Hop} {hs : List Hop} : wHops cont k inn (h :: hs) ≠ [] := by
 cases hs with
 | nil => exact hc _ _ _
 | cons a l => simp [wHops]
theorem wParts_ne (z : Int → Hop → Int) : ∀ (ps : List Part) (h : Hop), chain h ps → ∀ k i h', wParts z ps k i h' ≠ []
 | [], _, _, _, _, _ => by simp [wParts]
 | p :: ps, h, hc, k, i, h' => by
  obtain ⟨h0, hs, hp, _, hc2⟩ := hc; unfold wParts; rw [hp]; exact wHops_ne (wParts_ne z ps _ hc2)
theorem wHops_in {cont : Int → Int → Hop → List Step} (hc : ∀ k i h, endsIn (cont k i h) = cont k 0 h) (k inn : Int) (h : Hop) (hs : List Hop) : endsIn (wHops cont k inn (h :: hs)) = wHops cont k 0 (h :: hs) := by
 cases hs with
 | nil => exact hc _ _ _
 | cons a l => exact endsIn_cons _ _
theorem wParts_in (z : Int → Hop → Int) : ∀ (ps : List Part) (h : Hop), chain h ps → ∀ k i h', endsIn (wParts z ps k i h') = wParts z ps k 0 h'
 | [], _, _, _, _, _ => by simp [wParts, endsIn]
 | p :: ps, h, hc, k, i, h' => by
  obtain ⟨h0, hs, hp, _, hc2⟩ := hc; unfold wParts; rw [hp]; exact wHops_in (wParts_in z ps _ hc2) _ _ _ _
theorem wHops_eg {c1 c2 : Int → Int → Hop → List Step} (hn : ∀ k i h, c1 k i h ≠ []) (hc : ∀ k i h, endsEg (c1 k i h) = c2 k i h) (k : Int) : ∀ (hs : List Hop) (inn : Int) (h : Hop), endsEg (wHops c1 k inn (h :: hs)) = wHops c2 k inn (h :: hs)
 | [], _, _ => hc _ _ _
 | a :: hs, inn, h => by
  show endsEg (_ :: wHops c1 k (hopIn k a) (a :: hs)) = _ :: wHops c2 k (hopIn k a) (a :: hs)
  rw [endsEg_cons _ _ (wHops_ne hn), wHops_eg hn hc k hs]
theorem wParts_eg (z : Int → Hop → Int) : ∀ (ps : List Part) (h : Hop), chain h ps → ∀ k i h', endsEg (wParts z ps k i h') = wParts (fun _ _ => 0) ps k i h'
 | [], _, _, _, _, _ => by simp [wParts, endsEg]
 | p :: ps, h, hc, k, i, h' => by
  obtain ⟨h0, hs, hp, _, hc2⟩ := hc; unfold wParts; rw [hp]; exact wHops_eg (wParts_ne z ps _ hc2) (wParts_eg z ps _ hc2) _ _ _ _
theorem steps_walk (p : Part) (ps : List Part) (h0 : Hop) (hs : List Hop) (hp : p.hops = h0 :: hs) (hc : chain (lastHop h0 hs) ps) : pathSteps (p :: ps) = wHops (wParts (fun _ _ => 0) ps) p.kind 0 (h0 :: hs) := by
 unfold pathSteps; rw [parts_raw p ps h0 hs hp hc, wHops_in (wParts_in hopEg ps _ hc), wHops_eg (wParts_ne hopEg ps _ hc) (wParts_eg hopEg ps _ hc)]
end
section
open Go.RowKit
structure GoodP (t : Topo) (ps : List Part) : Prop where
  ne : ∀ j, j < ps.length → 0 < (partAt ps j).hops.length
  fol : ∀ j, j + 1 < ps.length → (hopAt (partAt ps j).hops ((partAt ps j).hops.length - 1)).asn = (hopAt (partAt ps (j + 1)).hops 0).asn
  join : ∀ j, j < ps.length → ∀ i, i + 1 < (partAt ps j).hops.length → joinAt t (partAt ps j) i = true
  vh : ∀ j, j < ps.length → ∀ i, i < (partAt ps j).hops.length → validHop (hopAt (partAt ps j).hops i) = true
theorem good_of_wf {t : Topo} {p : Pth} (h : wfPath t p = true) : GoodP t p.parts := by
 unfold wfPath at h; simp only [Bool.and_eq_true] at h; have hp := allTo_true.1 h.2
 have hv : ∀ j, j < p.parts.length → validPart t (partAt p.parts j) = true := fun j hj => by
  have := hp j hj; unfold partOk at this; simp only [Bool.and_eq_true] at this; exact this.1
 have ho : ∀ j, j < p.parts.length → hopsOk t (partAt p.parts j).hops = true := fun j hj => by
  have := hv j hj; unfold validPart at this; simp only [Bool.and_eq_true] at this; exact this.1.1.1.2
 refine ⟨fun j hj => ?_, fun j hj => ?_, fun j hj i hi => ?_, fun j hj i hi => ?_⟩
 ·
  have := ho j hj; unfold hopsOk at this; simp only [Bool.and_eq_true] at this; have := (inR_true.1 this.1).1; omega
 ·
  have := hp (j + 1) hj; unfold partOk at this; simp only [Bool.and_eq_true, Nat.add_sub_cancel] at this; have h2 := this.2; simp only [Nat.add_eq_zero_iff, Nat.one_ne_zero, and_false, decide_false, Bool.false_or] at h2; unfold followAt at h2; simp only [Bool.and_eq_true, beq_iff_eq] at h2; exact h2.2
 ·
  have := hv j hj; unfold validPart at this; simp only [Bool.and_eq_true] at this; exact allTo_true.1 this.2 i (by omega)
 ·
  have := ho j hj; unfold hopsOk at this; simp only [Bool.and_eq_true] at this; have := allTo_true.1 this.2 i hi; unfold hopFresh at this; simp only [Bool.and_eq_true] at this; exact this.1.1
theorem vh_asn {h : Hop} (hv : validHop h = true) : 0 ≤ h.asn ∧ h.asn ≤ 7 := by
 unfold validHop at hv; simp only [Bool.and_eq_true] at hv; exact inR_true.1 hv.1.1.1.1.1
def restH (x : Pkt) : List Hop := (curPart x).hops.drop x.hi.toNat
def restP (x : Pkt) : List Part := x.path.parts.drop (x.pi.toNat + 1)
def walkAt (x : Pkt) (inn : Int) : List Step := wHops (wParts (fun _ _ => 0) (restP x)) (curPart x).kind inn (restH x)
theorem hasHop_iff {x : Pkt} : hasHop x = true ↔ 0 ≤ x.pi ∧ x.pi.toNat < x.path.parts.length ∧ 0 ≤ x.hi ∧ x.hi.toNat < (curPart x).hops.length := by
 unfold hasHop; simp only [Bool.and_eq_true, inR_true]
 constructor
 ·
  rintro ⟨⟨a, b⟩, c, d⟩; refine ⟨a, by omega, c, by omega⟩
 ·
  rintro ⟨a, b, c, d⟩; exact ⟨⟨a, by omega⟩, c, by omega⟩
theorem restH_cons {x : Pkt} (h : hasHop x = true) : restH x = curHop x :: (curPart x).hops.drop (x.hi.toNat + 1) := by
 obtain ⟨_, _, _, hh⟩ := hasHop_iff.1 h; unfold restH curHop; rw [List.drop_eq_getElem_cons hh, hopAt_at hh]
theorem lastOf_iff {x : Pkt} (h : hasHop x = true) : lastOf x = true ↔ x.hi.toNat + 1 = (curPart x).hops.length := by
 obtain ⟨_, _, h0, hh⟩ := hasHop_iff.1 h; unfold lastOf; rw [beq_iff_eq]; omega
theorem walk_end {x : Pkt} (inn : Int) (h : hasHop x = true) (hl : lastOf x = true) (he : x.path.parts.length ≤ x.pi.toNat + 1) : walkAt x inn = [⟨(curHop x).asn, inn, 0⟩] := by
 have h1 := (lastOf_iff h).1 hl; unfold walkAt; rw [restH_cons h, List.drop_of_length_le (by omega)]; unfold restP; rw [List.drop_of_length_le he]; rfl
theorem walk_hop {x : Pkt} (inn : Int) (h : hasHop x = true) (hl : ¬ lastOf x = true) :
  walkAt x inn = ⟨(curHop x).asn, inn, hopEg (curPart x).kind (curHop x)⟩ :: walkAt { x with hi := x.hi + 1 } (hopIn (curPart x).kind (hopAt (curPart x).hops (x.hi.toNat + 1))) := by
 obtain ⟨_, _, h0, hh⟩ := hasHop_iff.1 h
 have h1 : x.hi.toNat + 1 < (curPart x).hops.length := by
  have h9 : ¬ x.hi.toNat + 1 = (curPart x).hops.length := fun e => hl ((lastOf_iff h).2 e)
  omega
 have e1 : (x.hi + 1).toNat = x.hi.toNat + 1 := by omega
 unfold walkAt; rw [restH_cons h, List.drop_eq_getElem_cons h1]
 show _ :: wHops _ _ _ _ = _
 unfold restH restP curPart; simp only [e1]; have h2 : x.hi.toNat + 1 < (partAt x.path.parts x.pi.toNat).hops.length := h1; rw [List.drop_eq_getElem_cons h2, hopAt_at h2]; rfl
theorem walk_part {x : Pkt} (inn b : Int) (h : hasHop x = true) (hl : lastOf x = true) (he : x.pi.toNat + 1 < x.path.parts.length) : walkAt x inn = walkAt { x with pi := x.pi + 1, hi := 0, beta := b } inn := by
 obtain ⟨hp0, _, h0, hh⟩ := hasHop_iff.1 h; have h1 := (lastOf_iff h).1 hl; have e1 : (x.pi + 1).toNat = x.pi.toNat + 1 := by omega
 unfold walkAt; rw [restH_cons h, List.drop_of_length_le (by omega)]; unfold restP restH curPart; simp only [e1]; rw [List.drop_eq_getElem_cons he, partAt_at he]; rfl
theorem verCur_pos (t : Topo) (x : Pkt) : (verCur t x).pi = x.pi ∧ (verCur t x).hi = x.hi ∧ (verCur t x).path = x.path ∧ (verCur t x).dst = x.dst ∧ (verCur t x).src = x.src := by
 unfold verCur; split <;> exact ⟨rfl, rfl, rfl, rfl, rfl⟩
theorem curAs_of {x : Pkt} (h : hasHop x = true) : curAs x = (curHop x).asn := by unfold curAs; rw [if_pos h]
theorem chk_hop {t : Topo} {now : Int} {x : Pkt} (h : chkCode t now x = 0) : hasHop x = true ∧ curOk t x = true ∧ curIn x now = true := by
 unfold chkCode at h
 split at h
 ·
  rename_i h1
  split at h
  ·
   rename_i h2
   refine ⟨?_, h1, h2⟩; unfold curOk at h1; simp only [Bool.and_eq_true] at h1; exact h1.1
  ·
   omega
 ·
  omega
theorem asn_nn {t : Topo} {x : Pkt} (G : GoodP t x.path.parts) (h : hasHop x = true) : 0 ≤ (curHop x).asn := by
 obtain ⟨_, hp, _, hh⟩ := hasHop_iff.1 h; exact (vh_asn (G.vh _ hp _ hh)).1
theorem atLast_iff {t : Topo} {x : Pkt} (G : GoodP t x.path.parts) (h : hasHop x = true) : atLast x = true ↔ lastOf x = true ∧ x.path.parts.length ≤ x.pi.toNat + 1 := by
 obtain ⟨h1, h2, _, _⟩ := hasHop_iff.1 h; unfold atLast; rw [curAs_of h]; have := asn_nn G h; simp only [Bool.and_eq_true, decide_eq_true_eq, beq_iff_eq]
 constructor
 ·
  rintro ⟨⟨_, a⟩, b⟩; exact ⟨a, by omega⟩
 ·
  rintro ⟨a, b⟩; exact ⟨⟨this, a⟩, by omega⟩
theorem adv_part {t : Topo} {x : Pkt} (G : GoodP t x.path.parts) (h : hasHop x = true) (hl : lastOf x = true) (he : ¬ atLast x = true) :
  advance x = { x with pi := x.pi + 1, hi := 0, beta := (partAt x.path.parts (x.pi.toNat + 1)).beta } ∧ x.pi.toNat + 1 < x.path.parts.length := by
 have h1 := asn_nn G h; have h2 : ¬ (x.path.parts.length ≤ x.pi.toNat + 1) := fun e => he ((atLast_iff G h).2 ⟨hl, e⟩)
 refine ⟨?_, by omega⟩; unfold advance; rw [curAs_of h, if_neg (by simp only [Bool.or_eq_true, decide_eq_true_eq]; rintro (e | e); omega; exact he e), if_pos hl]
theorem adv_hop {t : Topo} {x : Pkt} (G : GoodP t x.path.parts) (h : hasHop x = true) (hl : ¬ lastOf x = true) : advance x = { x with hi := x.hi + 1 } := by
 have h1 := asn_nn G h; unfold advance; rw [curAs_of h, if_neg (by simp only [Bool.or_eq_true, decide_eq_true_eq]; rintro (e | e); omega; exact hl ((atLast_iff G h).1 e).1), if_neg hl]
theorem part_pos {t : Topo} {x : Pkt} (b : Int) (G : GoodP t x.path.parts) (h : hasHop x = true) (hl : lastOf x = true) (he : x.pi.toNat + 1 < x.path.parts.length) :
  hasHop { x with pi := x.pi + 1, hi := 0, beta := b } = true ∧ curAs { x with pi := x.pi + 1, hi := 0, beta := b } = curAs x := by
 obtain ⟨h0, h1, h2, h3⟩ := hasHop_iff.1 h; have e1 : (x.pi + 1).toNat = x.pi.toNat + 1 := by omega
 have hn := G.ne _ he
 have hh : hasHop { x with pi := x.pi + 1, hi := 0, beta := b } = true := by
  rw [hasHop_iff]; unfold curPart; simp only [e1]; exact ⟨by omega, he, by omega, by simpa using hn⟩
 refine ⟨hh, ?_⟩; rw [curAs_of hh, curAs_of h]; have hf := G.fol _ he; have hle := (lastOf_iff h).1 hl; unfold curHop curPart; simp only [e1]; unfold curPart at hle; rw [show x.hi.toNat = (partAt x.path.parts x.pi.toNat).hops.length - 1 by omega, hf]; rfl
theorem chk_walk {t : Topo} {now : Int} : ∀ (f : Nat) (x : Pkt), GoodP t x.path.parts → hasHop x = true → (chkAll t now f x).1 = 0 → x.path.parts.length ≤ f + x.pi.toNat + 1 →
  (chkAll t now f x).2.path = x.path ∧ (chkAll t now f x).2.dst = x.dst ∧ hasHop (chkAll t now f x).2 = true ∧ curAs (chkAll t now f x).2 = curAs x ∧ (∀ inn, walkAt (chkAll t now f x).2 inn = walkAt x inn) ∧
   (lastOf (chkAll t now f x).2 = true → atLast (chkAll t now f x).2 = true)
 | 0, x, G, hx, hc, hf => by
  obtain ⟨e1, e2, e3, e4, _⟩ := verCur_pos t x; have hv : hasHop (verCur t x) = true := by unfold hasHop curPart; rw [e1, e2, e3]; exact hx
  refine ⟨e3, e4, hv, ?_, fun inn => ?_, fun hl => ?_⟩
  ·
   show curAs (verCur t x) = _
   unfold curAs curHop hasHop curPart; rw [e1, e2, e3]
  ·
   show walkAt (verCur t x) inn = _
   unfold walkAt restP restH curPart; rw [e1, e2, e3]
  ·
   exact (atLast_iff (by rw [e3]; exact G) hv).2 ⟨hl, by rw [e3, e1]; omega⟩
 | f + 1, x, G, hx, hc, hf => by
  obtain ⟨e1, e2, e3, e4, _⟩ := verCur_pos t x; have hv : hasHop (verCur t x) = true := by unfold hasHop curPart; rw [e1, e2, e3]; exact hx
  have hca : curAs (verCur t x) = curAs x := by unfold curAs curHop hasHop curPart; rw [e1, e2, e3]
  have hwa : ∀ inn, walkAt (verCur t x) inn = walkAt x inn := fun inn => by unfold walkAt restP restH curPart; rw [e1, e2, e3]
  have Gv : GoodP t (verCur t x).path.parts := by rw [e3]; exact G
  unfold chkAll at hc ⊢
  split at hc
  ·
   rename_i hcond
   rw [if_pos hcond]; simp only [Bool.and_eq_true, Bool.not_eq_true', beq_iff_eq] at hcond; obtain ⟨⟨_, hl⟩, hna⟩ := hcond; obtain ⟨ha, hlt⟩ := adv_part Gv hv hl (by rw [hna]; decide); have hp := part_pos (partAt (verCur t x).path.parts ((verCur t x).pi.toNat + 1)).beta Gv hv hl hlt; rw [← ha] at hp; have hpath : (advance (verCur t x)).path = x.path := by rw [ha]; exact e3
   have hdst : (advance (verCur t x)).dst = x.dst := by rw [ha]; exact e4
   have hpi : (advance (verCur t x)).pi.toNat = x.pi.toNat + 1 := by
    obtain ⟨h0, _⟩ := hasHop_iff.1 hx; rw [ha]; show ((verCur t x).pi + 1).toNat = _; rw [e1]; omega
   obtain ⟨a1, a2, a3, a4, a5, a6⟩ := chk_walk f (advance (verCur t x)) (by rw [hpath]; exact G) hp.1 hc (by rw [hpath, hpi]; omega); refine ⟨a1.trans hpath, a2.trans hdst, a3, a4.trans (hp.2.trans hca), fun inn => ?_, a6⟩; rw [a5 inn, ← hwa inn, walk_part inn _ hv hl hlt, ← ha]
  ·
   rename_i hcond
   rw [if_neg hcond]; refine ⟨e3, e4, hv, hca, hwa, fun hl => ?_⟩
   cases hna : atLast (verCur t x)
   ·
    exfalso
    apply hcond
    simp only [Bool.and_eq_true, Bool.not_eq_true', beq_iff_eq]; exact ⟨⟨hc, hl⟩, hna⟩
   ·
    rfl
theorem chkCode_vals (t : Topo) (now : Int) (x : Pkt) : chkCode t now x = 0 ∨ chkCode t now x = 4 ∨ chkCode t now x = 5 := by
 unfold chkCode; split
 ·
  split
  ·
   exact .inl rfl
  ·
   exact .inr (.inr rfl)
 ·
  exact .inr (.inl rfl)
theorem chkAll_code (t : Topo) (now : Int) : ∀ (f : Nat) (x : Pkt), (chkAll t now f x).1 = 0 ∨ (chkAll t now f x).1 = 4 ∨ (chkAll t now f x).1 = 5
 | 0, x => chkCode_vals t now x
 | f + 1, x => by
  unfold chkAll
  split
  ·
   exact chkAll_code t now f _
  ·
   exact chkCode_vals t now x
theorem vp_hop {x : Pkt} (h : validPkt x = true) : hasHop x = true := by
 unfold validPkt at h; simp only [Bool.and_eq_true] at h; exact h.1.1.1.1.1.1.1.2
theorem good_of_simple {t : Topo} {p : Pth} (h : simple t p = true) : GoodP t p.parts := by
 unfold simple at h; simp only [Bool.and_eq_true] at h; exact good_of_wf h.1
theorem wantIn_hop {x : Pkt} (h : hasHop x = true) : wantIn { x with hi := x.hi + 1 } = partIn (curPart x) (x.hi + 1) := by
 obtain ⟨_, _, h0, _⟩ := hasHop_iff.1 h; unfold wantIn; rw [if_neg (by simp only [Bool.and_eq_true, beq_iff_eq]; omega)]; rfl
theorem fw_ok {t : Topo} {r now dead inn cd eg : Int} {x z : Pkt} (h : forward t r now dead inn x = ⟨cd, eg, z⟩) (hc : cd = 0 ∨ cd = 1) :
  validPkt x = true ∧ simple t x.path = true ∧ curAs x = r ∧ inn = wantIn x ∧ (chkAll t now x.path.parts.length x).1 = 0 ∧
   (cd = 1 → walkAt x inn = [⟨r, inn, eg⟩] ∧ x.dst = r ∧ eg = 0 ∧ z = (chkAll t now x.path.parts.length x).2 ∧ atLast (chkAll t now x.path.parts.length x).2 = true) ∧
   (cd = 0 → walkAt x inn = ⟨r, inn, eg⟩ :: walkAt z (wantIn z) ∧ remEnd t r eg = (curAs z, wantIn z) ∧ hasHop z = true ∧ z.path = x.path ∧ z.dst = x.dst ∧ stepOk t ⟨r, inn, eg⟩ = true ∧ inSet dead eg = false ∧
    z = { (chkAll t now x.path.parts.length x).2 with hi := (chkAll t now x.path.parts.length x).2.hi + 1 } ∧ eg = partEg (curPart (chkAll t now x.path.parts.length x).2) (chkAll t now x.path.parts.length x).2.hi ∧ ¬ lastOf (chkAll t now x.path.parts.length x).2 = true) := by
 unfold forward at h; simp only at h
 split at h
 ·
  cases h; omega
 rename_i h1
 simp only [Bool.not_eq_true', Bool.not_eq_false, Bool.and_eq_true, beq_iff_eq] at h1; obtain ⟨⟨hv, hs⟩, hr⟩ := h1
 split at h
 ·
  cases h; omega
 rename_i h2
 have hin : inn = wantIn x := by simpa using h2
 have G := good_of_simple hs; have hx := vp_hop hv
 split at h
 ·
  rename_i h3
  have h3' : ¬ (chkAll t now x.path.parts.length x).1 = 0 := by simpa using h3
  have : (chkAll t now x.path.parts.length x).1 = cd := by cases h; rfl
  have hn := chkAll_code t now x.path.parts.length x; omega
 rename_i h3
 have hch : (chkAll t now x.path.parts.length x).1 = 0 := by simpa using h3
 obtain ⟨hy1, hy2, hy3, hy4, hy5, hy6⟩ := chk_walk x.path.parts.length x G hx hch (by omega); generalize hye : (chkAll t now x.path.parts.length x).2 = y at *; have Gy : GoodP t y.path.parts := by rw [hy1]; exact G
 have hyr : (curHop y).asn = r := by rw [← curAs_of hy3, hy4, hr]
 refine ⟨hv, hs, hr, hin, hch, ?_⟩
 split at h
 ·
  rename_i h4
  obtain ⟨hl, hf⟩ := (atLast_iff Gy hy3).1 h4
  split at h
  ·
   rename_i h5
   cases h
   refine ⟨fun _ => ⟨?_, ?_, rfl, rfl, h4⟩, fun e => by omega⟩
   ·
    rw [← hy5, walk_end inn hy3 hl hf, hyr]
   ·
    rw [← hy2]; simpa using h5
  ·
   cases h; omega
 ·
  rename_i h4
  have hl : ¬ lastOf y = true := fun e => h4 (hy6 e)
  split at h
  ·
   cases h; omega
  rename_i h5
  split at h
  ·
   cases h; omega
  rename_i h6
  simp only [Vd.mk.injEq] at h; obtain ⟨rfl, rfl, rfl⟩ := h; refine ⟨fun e => by omega, fun _ => ?_⟩; obtain ⟨hp0, hp1, hi0, hi1⟩ := hasHop_iff.1 hy3
  have hlt : y.hi.toNat + 1 < (curPart y).hops.length := by
   have h9 : ¬ y.hi.toNat + 1 = (curPart y).hops.length := fun e => hl ((lastOf_iff hy3).2 e)
   omega
  have e1 : (y.hi + 1).toNat = y.hi.toNat + 1 := by omega
  have hadv := adv_hop Gy hy3 hl
  have hz : hasHop { y with hi := y.hi + 1 } = true := by
   rw [hasHop_iff]; refine ⟨hp0, hp1, by show 0 ≤ y.hi + 1; omega, ?_⟩
   show (y.hi + 1).toNat < _
   rw [e1]; exact hlt
  have heg : partEg (curPart y) y.hi = hopEg (curPart y).kind (curHop y) := by
   have := partEg_at (p := curPart y) hi1; rw [show ((y.hi.toNat : Nat) : Int) = y.hi by omega] at this; rw [this]; unfold curHop; rw [hopAt_at hi1]
  have hwi : wantIn { y with hi := y.hi + 1 } = hopIn (curPart y).kind (hopAt (curPart y).hops (y.hi.toNat + 1)) := by
   rw [wantIn_hop hy3]; have := partIn_at (p := curPart y) hlt; rw [show ((y.hi.toNat + 1 : Nat) : Int) = y.hi + 1 by omega] at this; rw [this, hopAt_at hlt]
  have hj := Gy.join _ hp1 _ hlt; unfold joinAt at hj; simp only [Bool.and_eq_true, bne_iff_ne, beq_iff_eq] at hj; obtain ⟨⟨_, hj1⟩, hj2⟩ := hj; have hce : hopAt (partAt y.path.parts y.pi.toNat).hops y.hi.toNat = curHop y := rfl
  have hcz : curAs { y with hi := y.hi + 1 } = (hopAt (partAt y.path.parts y.pi.toNat).hops (y.hi.toNat + 1)).asn := by
   rw [curAs_of hz]; unfold curHop curPart; simp only [e1]
  rw [show ((y.hi.toNat : Nat) : Int) = y.hi by omega, hce, hyr] at hj1 hj2; rw [hadv]; refine ⟨?_, ?_, hz, hy1, hy2, ?_, ?_, rfl, rfl, hl⟩
  ·
   rw [← hy5, walk_hop inn hy3 hl, hyr, ← heg, hwi]
  ·
   refine Prod.ext ?_ ?_
   ·
    rw [hcz]; exact hj1
   ·
    rw [hwi]; have h7 := partIn_at (p := curPart y) hlt; rw [hopAt_at hlt, ← h7]; exact hj2
  ·
   cases hs5 : stepOk t ⟨r, inn, partEg (curPart y) y.hi⟩
   ·
    rw [hs5] at h5; exact absurd rfl h5
   ·
    rfl
  ·
   cases hs6 : inSet dead (partEg (curPart y) y.hi)
   ·
    rfl
   ·
    rw [hs6] at h6; exact absurd rfl h6
end
section
open Go.RowKit
theorem curIn_ver' (t : Topo) (x : Pkt) (now : Int) : curIn (verCur t x) now = curIn x now := by
 obtain ⟨e1, e2, e3, _⟩ := verCur_pos t x; unfold curIn curAs curHop hasHop curPart; rw [e1, e2, e3]
theorem chk_in {t : Topo} {now : Int} : ∀ (f : Nat) (x : Pkt), (chkAll t now f x).1 = 0 → curIn x now = true ∧ curIn (chkAll t now f x).2 now = true
 | 0, x, h => by
  obtain ⟨_, _, h3⟩ := chk_hop (t := t) (now := now) (x := x) h; exact ⟨h3, by show curIn (verCur t x) now = true; rw [curIn_ver']; exact h3⟩
 | f + 1, x, h => by
  unfold chkAll at h ⊢
  split at h
  ·
   rename_i hc
   rw [if_pos hc]; simp only [Bool.and_eq_true, beq_iff_eq] at hc; exact ⟨(chk_hop hc.1.1).2.2, (chk_in f _ h).2⟩
  ·
   rename_i hc
   rw [if_neg hc]; obtain ⟨_, _, h3⟩ := chk_hop (t := t) (now := now) (x := x) h; exact ⟨h3, by rw [curIn_ver']; exact h3⟩
theorem curIn_at {x : Pkt} {now : Int} (h : curIn x now = true) : (curPart x).ts ≤ now ∧ now ≤ (curHop x).exp := by
 unfold curIn at h; simp only [Bool.and_eq_true, decide_eq_true_eq] at h; exact ⟨h.1.2, h.2⟩
def doorOk (now : Int) (ps : List Part) (s : Step) : Prop :=
  ∃ j i, j < ps.length ∧ i < (partAt ps j).hops.length ∧ (hopAt (partAt ps j).hops i).asn = s.asn ∧
    ((hopAt (partAt ps j).hops i).ing = s.ing ∨ (hopAt (partAt ps j).hops i).eg = s.ing ∨ (hopAt (partAt ps j).hops i).ing = s.eg ∨ (hopAt (partAt ps j).hops i).eg = s.eg ∨ (s.ing = 0 ∧ s.eg = 0)) ∧
    now ≤ (hopAt (partAt ps j).hops i).exp ∧ (partAt ps j).ts ≤ now
theorem hopIn_or (k : Int) (h : Hop) : hopIn k h = h.ing ∨ hopIn k h = h.eg := by unfold hopIn; split; exact .inr rfl; exact .inl rfl
theorem hopEg_or (k : Int) (h : Hop) : hopEg k h = h.ing ∨ hopEg k h = h.eg := by unfold hopEg; split; exact .inl rfl; exact .inr rfl
theorem wantIn_or {x : Pkt} (h : hasHop x = true) : wantIn x = 0 ∨ wantIn x = hopIn (curPart x).kind (curHop x) := by
 obtain ⟨_, _, h0, h1⟩ := hasHop_iff.1 h; unfold wantIn
 split
 ·
  exact .inl rfl
 ·
  right
  have := partIn_at (p := curPart x) h1; rw [show ((x.hi.toNat : Nat) : Int) = x.hi by omega] at this; rw [this]; unfold curHop; rw [hopAt_at h1]
theorem door_go {t : Topo} {r now dead inn eg : Int} {x z : Pkt} (h : forward t r now dead inn x = ⟨0, eg, z⟩) : doorOk now x.path.parts ⟨r, inn, eg⟩ := by
 obtain ⟨hv, hs, hr, _, hch, _, h0⟩ := fw_ok h (.inl rfl); obtain ⟨_, _, _, _, _, _, _, _, heg, _⟩ := h0 rfl; obtain ⟨hy1, _, hy3, hy4, _, _⟩ := chk_walk x.path.parts.length x (good_of_simple hs) (vp_hop hv) hch (by omega); have hci := curIn_at (chk_in _ _ hch).2; generalize (chkAll t now x.path.parts.length x).2 = y at *; obtain ⟨a0, a1, a2, a3⟩ := hasHop_iff.1 hy3; unfold curPart at a3; rw [hy1] at a1 a3; have hcp : curPart y = partAt x.path.parts y.pi.toNat := by unfold curPart; rw [hy1]
 have hch' : curHop y = hopAt (partAt x.path.parts y.pi.toNat).hops y.hi.toNat := by unfold curHop; rw [hcp]
 have hpe : eg = hopEg (curPart y).kind (curHop y) := by
  have := partEg_at (p := curPart y) (i := y.hi.toNat) (by rw [hcp]; exact a3); rw [show ((y.hi.toNat : Nat) : Int) = y.hi by omega] at this; rw [heg, this]; unfold curHop; rw [hopAt_at (by rw [hcp]; exact a3)]
 refine ⟨y.pi.toNat, y.hi.toNat, a1, a3, ?_, ?_, ?_, ?_⟩
 ·
  rw [← hch', ← curAs_of hy3, hy4, hr]
 ·
  rw [← hch']
  rcases hopEg_or (curPart y).kind (curHop y) with e | e
  ·
   exact .inr (.inr (.inl (by rw [hpe, e])))
  ·
   exact .inr (.inr (.inr (.inl (by rw [hpe, e]))))
 ·
  rw [← hch']; exact hci.2
 ·
  rw [← hcp]; exact hci.1
theorem door_end {t : Topo} {r now dead inn eg : Int} {x z : Pkt} (h : forward t r now dead inn x = ⟨1, eg, z⟩) : doorOk now x.path.parts ⟨r, inn, eg⟩ := by
 obtain ⟨hv, hs, hr, hin, hch, h1, _⟩ := fw_ok h (.inr rfl); obtain ⟨_, _, heg, _⟩ := h1 rfl; have hx := vp_hop hv; have hci := curIn_at (chk_in _ _ hch).1; obtain ⟨a0, a1, a2, a3⟩ := hasHop_iff.1 hx; refine ⟨x.pi.toNat, x.hi.toNat, a1, a3, ?_, ?_, hci.2, hci.1⟩
 ·
  show (curHop x).asn = r
  rw [← curAs_of hx, hr]
 ·
  show (curHop x).ing = inn ∨ (curHop x).eg = inn ∨ (curHop x).ing = eg ∨ (curHop x).eg = eg ∨ _
  rcases wantIn_or hx with e | e
  ·
   exact .inr (.inr (.inr (.inr ⟨by show inn = 0; rw [hin, e], by show eg = 0; exact heg⟩)))
  ·
   rcases hopIn_or (curPart x).kind (curHop x) with e2 | e2
   ·
    exact .inl (by rw [hin, e, e2])
   ·
    exact .inr (.inl (by rw [hin, e, e2]))
theorem walkAt_ne {t : Topo} : ∀ (n : Nat) (x : Pkt) (inn : Int), GoodP t x.path.parts → hasHop x = true → x.path.parts.length ≤ n + x.pi.toNat → walkAt x inn ≠ []
 | 0, x, _, _, h, hn => by have := (hasHop_iff.1 h).2.1; omega
 | n + 1, x, inn, G, h, hn => by
  by_cases hl : lastOf x = true
  ·
   by_cases he : x.path.parts.length ≤ x.pi.toNat + 1
   ·
    rw [walk_end inn h hl he]; simp
   ·
    rw [walk_part inn 0 h hl (by omega)]; have hp := part_pos 0 G h hl (by omega); have h0 := (hasHop_iff.1 h).1; exact walkAt_ne n { x with pi := x.pi + 1, hi := 0, beta := 0 } inn G hp.1 (by show x.path.parts.length ≤ n + (x.pi + 1).toNat; omega)
  ·
   rw [walk_hop inn h hl]; simp
structure Trod (t : Topo) (now : Int) (dead : List Int) (x : Pkt) (inn : Int) (l : List Step) (w : Trc) where
  pre : List Step
  suf : List Step
  cut : walkAt x inn = pre ++ suf
  steps : w.steps = l ++ pre
  code : w.code ≠ 0
  all : w.code = 1 → suf = []
  short : w.code ≠ 1 → simple t x.path = true → hasHop x = true → suf ≠ []
  door : ∀ s ∈ pre, doorOk now x.path.parts s
  okS : ∀ s ∈ pre, stepOk t s = true ∨ (s.eg = 0 ∧ ((s.asn = curAs x ∧ s.ing = inn) ∨ ∃ s', stepOk t s' = true ∧ remEnd t s'.asn s'.eg = (s.asn, s.ing)))
theorem trav_trod (t : Topo) (now : Int) (dead : List Int) : ∀ (f : Nat) (r inn : Int) (x : Pkt) (l : List Step), (simple t x.path = true → (walkAt x inn).length ≤ f) → (0 < f ∨ walkAt x inn ≠ [] ∧ simple t x.path = true) →
  Nonempty (Trod t now dead x inn l (trav t now dead f r inn x l))
 | 0, r, inn, x, l, hl, h0 => by
  rcases h0 with h0 | ⟨h0, hs⟩
  ·
   omega
  ·
   exact absurd (List.eq_nil_of_length_eq_zero (Nat.le_zero.1 (hl hs))) h0
 | f + 1, r, inn, x, l, hl, _ => by
  obtain ⟨v, hv⟩ : ∃ v, forward t r now (failedIfs t dead r) inn x = v := ⟨_, rfl⟩
  obtain ⟨cd, eg, z⟩ := v
  by_cases h0 : cd = 0
  ·
   subst h0; obtain ⟨_, hs, hr, _, _, _, hg⟩ := fw_ok hv (.inl rfl); obtain ⟨e1, e2, e3, e4, _, e6, _⟩ := hg rfl; have hsz : simple t z.path = true := by rw [e4]; exact hs
   have hlx := hl hs; rw [e1, List.length_cons] at hlx; have hne : walkAt z (wantIn z) ≠ [] := walkAt_ne _ z _ (good_of_simple hsz) e3 (Nat.le_add_right _ _); obtain ⟨T⟩ := trav_trod t now dead f (curAs z) (wantIn z) z (l ++ [⟨r, inn, eg⟩]) (fun _ => by omega) (.inr ⟨hne, hsz⟩); rw [trav_go hv, e2]; refine ⟨⟨r, inn, eg⟩ :: T.pre, T.suf, ?_, ?_, T.code, T.all, fun hc _ _ => T.short hc hsz e3, fun s hm => ?_, fun s hm => ?_⟩
   ·
    rw [e1, T.cut]; rfl
   ·
    rw [T.steps]; simp
   ·
    rcases List.mem_cons.1 hm with rfl | hm
    ·
     exact door_go hv
    ·
     have := T.door s hm; rw [e4] at this; exact this
   ·
    rcases List.mem_cons.1 hm with rfl | hm
    ·
     exact .inl e6
    ·
     rcases T.okS s hm with h | ⟨h1, h2⟩
     ·
      exact .inl h
     ·
      right
      refine ⟨h1, .inr ?_⟩
      rcases h2 with ⟨h3, h4⟩ | h2
      ·
       exact ⟨⟨r, inn, eg⟩, e6, by rw [h3, h4]; exact e2⟩
      ·
       exact h2
  ·
   by_cases h1 : cd = 1
   ·
    subst h1; obtain ⟨_, hs, hr, _, _, hg, _⟩ := fw_ok hv (.inr rfl); obtain ⟨e1, _, e3, _⟩ := hg rfl; rw [trav_del hv]; refine ⟨[⟨r, inn, eg⟩], [], by rw [e1]; rfl, rfl, (by show (1 : Int) ≠ 0; decide), fun _ => rfl, fun h => absurd rfl h, fun s hm => ?_, fun s hm => ?_⟩
    ·
     rw [List.mem_singleton.1 hm]; exact door_end hv
    ·
     rw [List.mem_singleton.1 hm]; exact .inr ⟨e3, .inl ⟨hr.symm, rfl⟩⟩
   ·
    rw [trav_bad hv h0 h1]; exact ⟨[], walkAt x inn, rfl, by simp, h0, fun h => absurd h h1, fun _ hs hh => walkAt_ne _ x _ (good_of_simple hs) hh (Nat.le_add_right _ _), fun s hm => (by cases hm), fun s hm => (by cases hm)⟩
theorem wHops_len {cont : Int → Int → Hop → List Step} {m : Nat} (hc : ∀ k i h, (cont k i h).length ≤ m) (k : Int) : ∀ (hs : List Hop) (inn : Int), (wHops cont k inn hs).length ≤ hs.length + m
 | [], _ => by simp [wHops]
 | [h], inn => by have := hc k inn h; simp only [wHops, List.length_singleton]; omega
 | h :: h' :: hs, inn => by
  have := wHops_len hc k (h' :: hs) (hopIn k h'); simp only [wHops, List.length_cons] at this ⊢
  omega
theorem wParts_len (z : Int → Hop → Int) : ∀ (ps : List Part) (k i : Int) (h : Hop), (wParts z ps k i h).length ≤ hopsN ps + 1
 | [], _, _, _ => by simp [wParts]
 | p :: ps, k, i, h => by
  have h1 := wHops_len (wParts_len z ps) p.kind p.hops i; have h2 : hopsN (p :: ps) = p.hops.length + hopsN ps := by simp [hopsN, Part.size]
  unfold wParts; omega
theorem hopsN_le8 {m : Nat} : ∀ (ps : List Part), (∀ p ∈ ps, p.hops.length ≤ m) → hopsN ps ≤ m * ps.length
 | [], _ => by simp [hopsN]
 | p :: ps, h => by
  have h1 := hopsN_le8 ps (fun q hq => h q (by simp [hq])); have h2 := h p (by simp); have h3 : hopsN (p :: ps) = p.hops.length + hopsN ps := by simp [hopsN, Part.size]
  rw [h3, List.length_cons, Nat.mul_succ]; omega
theorem walk_short {t : Topo} {x : Pkt} (inn : Int) (h : simple t x.path = true) : (walkAt x inn).length ≤ 30 := by
 have hw : wfPath t x.path = true := by unfold simple at h; simp only [Bool.and_eq_true] at h; exact h.1
 unfold wfPath at hw; simp only [Bool.and_eq_true] at hw; have hl := (inR_true.1 hw.1).2; have hp := allTo_true.1 hw.2
 have hb : ∀ j, j < x.path.parts.length → (partAt x.path.parts j).hops.length ≤ 8 := fun j hj => by
  have := hp j hj; unfold partOk validPart hopsOk at this; simp only [Bool.and_eq_true] at this; have := (inR_true.1 this.1.1.1.1.2.1).2; omega
 have h1 := wHops_len (wParts_len (fun _ _ => 0) (restP x)) (curPart x).kind (restH x) inn
 have h2 : (restH x).length ≤ 8 := by
  unfold restH; rw [List.length_drop]
  by_cases hj : x.pi.toNat < x.path.parts.length
  ·
   have := hb _ hj; unfold curPart; omega
  ·
   unfold curPart partAt; rw [List.getElem?_eq_none (by omega)]
   simp
 have h3 : hopsN (restP x) ≤ 8 * (restP x).length := hopsN_le8 _ (fun p hm => by
  obtain ⟨j, hj, rfl⟩ := List.getElem_of_mem (List.mem_of_mem_drop hm); have := hb j hj
  rwa [partAt_at hj] at this)
 have h4 : (restP x).length ≤ 2 := by unfold restP; rw [List.length_drop]; omega
 unfold walkAt; omega
theorem traverse_trod (t : Topo) (now : Int) (dead : List Int) (x : Pkt) : Nonempty (Trod t now dead x 0 [] (traverse t now dead x)) :=
 trav_trod t now dead 30 x.src 0 x [] (fun h => walk_short 0 h) (.inl (by decide))
end
end Go.Proofs.YtcpfmhgfaliemaaGreat
